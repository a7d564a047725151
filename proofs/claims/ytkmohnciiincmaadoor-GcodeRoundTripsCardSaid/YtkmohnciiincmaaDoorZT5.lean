/-
  Sx21: loops over a memory that grows: at the head of a loop the boxes are named anew, in the order in which the slots name them; rows that are handed back become data.
  Sx22: contracts of functions that take pointers and leave the memory alone; facts by their arguments.
  G1: commands of a motion program, in plain words of Lean: which words a code has, and what a word's number may be.
  G2: the small functions on commands. Written by gen.py.
  G3: lists of commands, and the segments of the checks. Written by gen.py.
  G4: the checks of commands: their loops by descent, and why both say the same.
  G5: the laws on checks. Written by gen.py.
  G6: the decimal texts of numbers: both programs write the same.
  G7: the segments of the texts of commands. Written by gen.py.
  G8: the texts of commands: both programs write the same.
  GA: different commands have different texts.
  Sx30: a contract of the library's, as the model's own 'Calls' says it, becomes a fact of the evaluator.
  DERIVED: THE SHELF's CONTRACTS AT THIS DUMP, IN PLAIN WORDS (tools/lay-plain.mjs out of 'TrydShelf.lean', which tools/lay-shelf.mjs wrote): THE SAME DECLARATIONS UNDER THE SAME NAMES: 'import', 'namespace', 'open', 'def', 'theorem' AND NOTHING ELSE: no command of the shelf's: FOR A HAND-IN. Each laying: the table of numbers ('.._ren') and one theorem, a field a fact of the dump's own or the kernel's comparison; each contract: ONE APPLICATION.
  GB: three functions of Go's library as facts: strings.Split at a blank, TrimPrefix, IndexByte; and the pieces of a text in plain words.
-/
import Derived.Test.YtkmohnciiincmaaDoorZT4
import Derived.Test.YtkmohnciiincmaaDoorProg
import Derived.Shelf.Small.Strs
import Derived.Shelf.Utf8.RuneCount
import Derived.Shelf.Strings.Search1
import Derived.Shelf.Strings.Search2
import Derived.Shelf.Strings.Search3
import Derived.Shelf.Strings.Count
import Derived.Shelf.LaysM
import Derived.Shelf.Strings.Shaped
import Derived.Shelf.Strings.Prefix
import Derived.Shelf.Strings.Split
import Derived.Shelf.Strings.SplitShaped
import Derived.Shelf.Unicode.Decode
import Derived.Shelf.Strings.RuneCount
import Derived.Shelf.Strings.Explode
import Derived.Shelf.Unicode.DecodeSlow
import Derived.Shelf.Unicode.DecodeAny
set_option linter.unusedSimpArgs false
set_option linter.unusedVariables false
namespace Go.Sx
open Go.RowKit

theorem idx_get : ∀ {l : List Nat} {k j : Nat}, idx l k = some j → l[j]? = some k
  | x :: l, k, j, h => by
    unfold idx at h
    split at h
    · rename_i hx
      injection h with h; subst h
      simp [Nat.eq_of_beq_eq_true hx]
    · split at h
      · rename_i j' hj
        injection h with h; subst h
        simpa using idx_get hj
      · cases h

mutual
/-- A value with its boxes named anew. -/
def ren (ids : List Nat) : SV → SV
  | .row id => match idx ids id with | some k => .row k | none => .top
  | .arr id o n => match idx ids id with | some k => .arr k o n | none => .top
  | .ptr id o => match idx ids id with | some k => .ptr k o | none => .top
  | .rptr id z i o => match idx ids id with | some k => .rptr k z i o | none => .top
  | .agg cs => .agg (renL ids cs)
  | .tuple cs => .tuple (renL ids cs)
  | .fn f a b => .fn f (renL ids a) (renL ids b)
  | v => v
def renL (ids : List Nat) : List SV → List SV
  | [] => []
  | x :: xs => ren ids x :: renL ids xs
end

def renB (ids : List Nat) : Box → Box
  | .cells cs => .cells (renL ids cs)
  | .rows t l => .rows t l
  | .iter s p => .iter s p

noncomputable def idsM (m : Mem) : List Nat → List Nat → List Nat
  | [], l => l
  | id :: r, l => idsM m r (match m.get id with
    | some (.cells cs) => idsL cs l
    | _ => l)
noncomputable def live (m : Mem) (slots : List SV) : List Nat :=
  let l := idsL slots []
  let l := idsM m l l
  idsM m l l

def nodupB : List Nat → Bool
  | [] => true
  | x :: l => (match idx l x with | some _ => false | none => true) && nodupB l
theorem idx_none : ∀ {l : List Nat} {k : Nat}, idx l k = none → k ∉ l
  | [], _, _ => List.not_mem_nil
  | x :: l, k, h => by
    unfold idx at h
    split at h
    · cases h
    · rename_i hx
      split at h
      · cases h
      · rename_i hj
        intro hm
        cases hm with
        | head => simp at hx
        | tail _ hm => exact idx_none hj hm
theorem nodupB_spec : ∀ {l : List Nat}, nodupB l = true → l.Nodup
  | [], _ => List.nodup_nil
  | x :: l, h => by
    simp only [nodupB, Bool.and_eq_true] at h
    refine List.nodup_cons.2 ⟨?_, nodupB_spec h.2⟩
    have h1 := h.1
    split at h1
    · cases h1
    · rename_i hx; exact idx_none hx

section
variable {R R' : Nat → Prop} {ρ ρ' : Rho} {n n' : Nat} {w : World} {ids : List Nat}
mutual
theorem Rep.ren (hR : ∀ b, R b → R' b) (hρ : ∀ id k, idx ids id = some k → k < n' ∧ ρ' k = ρ id) : ∀ (x : SV) (v : Value), Rep R ρ n w x v → Rep R' ρ' n' w (Go.Sx.ren ids x) v
  | .undef, _, h => h
  | .top, _, h => trivial
  | .int _ _, _, h => h
  | .bool _, _, h => h
  | .str _, _, h => h
  | .nilS, _, h => h
  | .list t l, v, h => RepD.mono (fun b hb => ⟨hR b hb, rfl⟩) (.list t) l [v] h
  | .row id, v, h => by
    unfold Go.Sx.ren
    split
    · rename_i k hk
      obtain ⟨h1, h2⟩ := hρ id k hk
      obtain ⟨_, h⟩ := h
      exact ⟨h1, by rw [h2]; exact h⟩
    · trivial
  | .arr id _ _, v, h => by
    unfold Go.Sx.ren
    split
    · rename_i k hk
      obtain ⟨h1, h2⟩ := hρ id k hk
      exact ⟨h1, by rw [h2]; exact h.2⟩
    · trivial
  | .ptr id _, v, h => by
    unfold Go.Sx.ren
    split
    · rename_i k hk
      obtain ⟨h1, h2⟩ := hρ id k hk
      exact ⟨h1, by rw [h2]; exact h.2⟩
    · trivial
  | .nilP, _, h => h
  | .eptr t l i off, v, h => by
    obtain ⟨b, o, h1, h2, h3⟩ := h
    exact ⟨b, o, h1, h2, h3.mono fun b hb => ⟨hR b hb, rfl⟩⟩
  | .rptr id _ _ _, v, h => by
    unfold Go.Sx.ren
    split
    · rename_i k hk
      obtain ⟨h1, h2⟩ := hρ id k hk
      exact ⟨h1, by rw [h2]; exact h.2⟩
    · trivial
  | .agg cs, v, h => by
    obtain ⟨vs, h1, h2⟩ := h
    exact ⟨vs, h1, RepL.ren hR hρ cs vs h2⟩
  | .tuple cs, v, h => by
    obtain ⟨vs, h1, h2⟩ := h
    exact ⟨vs, h1, RepL.ren hR hρ cs vs h2⟩
  | .fn f first cap, v, h => by
    obtain ⟨vs, us, h1, h2, h3⟩ := h
    exact ⟨vs, us, h1, RepL.ren hR hρ first vs h2, RepL.ren hR hρ cap us h3⟩
  | .raw _, _, h => h
theorem RepL.ren (hR : ∀ b, R b → R' b) (hρ : ∀ id k, idx ids id = some k → k < n' ∧ ρ' k = ρ id) : ∀ (xs : List SV) (vs : List Value), RepL R ρ n w xs vs → RepL R' ρ' n' w (Go.Sx.renL ids xs) vs
  | [], _, h => h
  | x :: xs, vs, h => by
    obtain ⟨v, us, h1, h2, h3⟩ := h
    exact ⟨v, us, h1, Rep.ren hR hρ x v h2, RepL.ren hR hρ xs us h3⟩
end

theorem BoxRel.ren (hR : ∀ b, R b → R' b) (hρ : ∀ id k, idx ids id = some k → k < n' ∧ ρ' k = ρ id) {r : Nat × Nat × Nat} : ∀ (B : Box), BoxRel R ρ n w r B → BoxRel R' ρ' n' w r (renB ids B)
  | .cells cs, h => by
    obtain ⟨arr, e, fr, h1, h2, h3⟩ := h
    exact ⟨arr, e, fr, h1, h2, RepL.ren hR hρ _ _ h3⟩
  | .rows t l, h => by
    obtain ⟨h1, h2, h3⟩ := h
    refine ⟨h1, h2, fun h0 => ?_⟩
    obtain ⟨arr, e, fr, k1, k2, k3, k4⟩ := h3 h0
    refine ⟨arr, e, fr, k1, k2, k3, fun i hi => ?_⟩
    obtain ⟨cs, c1, c2, c3⟩ := k4 i hi
    exact ⟨cs, c1, c2, RepD.mono (fun b hb => ⟨hR b hb, rfl⟩) _ _ _ c3⟩
  | .iter s pos, h => h
end

theorem solid_ren {r : Nat × Nat × Nat} {ids : List Nat} : ∀ (B : Box), solid r (renB ids B) ↔ solid r B
  | .cells _ => Iff.rfl
  | .rows _ _ => Iff.rfl
  | .iter _ _ => Iff.rfl

theorem getD_renL (ids : List Nat) : ∀ (l : List SV) (t : Nat), (renL ids l).getD t .undef = ren ids (l.getD t .undef)
  | [], t => by cases t <;> rfl
  | x :: l, 0 => rfl
  | x :: l, t + 1 => by
    have := getD_renL ids l t
    simpa [renL] using this

theorem nodup_inj : ∀ {l : List Nat}, l.Nodup → ∀ (i j : Nat) (x : Nat), l[i]? = some x → l[j]? = some x → i = j
  | [], _, i, j, x, h, _ => by simp at h
  | y :: l, hn, i, j, x, hi, hj => by
    rw [List.nodup_cons] at hn
    cases i with
    | zero =>
      cases j with
      | zero => rfl
      | succ j =>
        simp at hi hj; subst hi
        exact absurd (List.mem_of_getElem? hj) hn.1
    | succ i =>
      cases j with
      | zero =>
        simp at hi hj; subst hj
        exact absurd (List.mem_of_getElem? hi) hn.1
      | succ j => rw [nodup_inj hn.2 i j x (by simpa using hi) (by simpa using hj)]

/-- A state is also what is left of it, with its boxes named anew. -/
theorem SRel.rename {w0 : World} {R0 : Nat → Prop} {ρ : Rho} {w : World} {fr fr2 : Fr} {m m2 : Mem} {a : Act} {slots : List SV} {ids : List Nat} (h : SRel w0 R0 ρ w fr m a) (hn : ids.Nodup)
    (hc : Canon (renL ids slots) (ids.map fun id => (m.get id).map (renB ids)) fr2 m2) (hlen : slots.length = fr.size) (hs : ∀ (i : Nat) (x : SV), slots[i]? = some x → x = .top ∨ x = fr.get i) :
    SRel w0 R0 (fun k => ρ (ids.getD k 0)) w fr2 m2 a ∧ ∀ b, RO w0 R0 ρ w m b → RO w0 R0 (fun k => ρ (ids.getD k 0)) w m2 b := by
  obtain ⟨h1, h2, h3⟩ := h
  have hg : ∀ k B, m2.get k = some B → ∃ id B0, ids[k]? = some id ∧ m.get id = some B0 ∧ B = renB ids B0 := fun k B hB => by
    rw [hc.box k] at hB
    simp only [List.getElem?_map] at hB
    cases hx : ids[k]? with
    | none => rw [hx] at hB; cases hB
    | some id =>
      rw [hx] at hB
      cases hy : m.get id with
      | none => simp [hy] at hB
      | some B0 => simp [hy] at hB; exact ⟨id, B0, rfl, hy, hB.symm⟩
  have hρk : ∀ k id, ids[k]? = some id → ρ (ids.getD k 0) = ρ id := fun k id hk => by rw [List.getD_eq_getElem?_getD, hk]; rfl
  have hρ : ∀ id k, idx ids id = some k → k < m2.next ∧ (fun k => ρ (ids.getD k 0)) k = ρ id := fun id k hk => by
    have := idx_get hk
    refine ⟨?_, hρk k id this⟩
    rw [hc.next]
    simpa using (List.getElem?_eq_some_iff.1 this).1
  have hro : ∀ b, RO w0 R0 ρ w m b → RO w0 R0 (fun k => ρ (ids.getD k 0)) w m2 b := fun b hb => by
    rcases hb with hb | ⟨k1, k2, k3⟩
    · exact .inl hb
    · refine .inr ⟨k1, k2, fun k B hB hsol => ?_⟩
      obtain ⟨id, B0, g1, g2, rfl⟩ := hg k B hB
      dsimp only at hsol ⊢
      rw [hρk k id g1] at hsol ⊢
      exact k3 id B0 g2 ((solid_ren B0).1 hsol)
  refine ⟨⟨⟨h1.below, fun k B hB => ?_, fun k B hB hsol => ?_, fun k B hB hsol => ?_, fun k k' B B' hB hB' hsol hsol' heq => ?_, fun k B hB => ?_⟩, ⟨?_, fun t => ?_⟩, h3⟩, hro⟩
  · obtain ⟨id, B0, g1, g2, rfl⟩ := hg k B hB
    rw [hc.next]
    simpa using (List.getElem?_eq_some_iff.1 g1).1
  · obtain ⟨id, B0, g1, g2, rfl⟩ := hg k B hB
    rw [hρk k id g1] at hsol ⊢
    exact h1.lo id B0 g2 ((solid_ren B0).1 hsol)
  · obtain ⟨id, B0, g1, g2, rfl⟩ := hg k B hB
    rw [hρk k id g1] at hsol ⊢
    exact h1.hi id B0 g2 ((solid_ren B0).1 hsol)
  · obtain ⟨id, B0, g1, g2, rfl⟩ := hg k B hB
    obtain ⟨id', B0', g1', g2', rfl⟩ := hg k' B' hB'
    rw [hρk k id g1] at hsol heq
    rw [hρk k' id' g1'] at hsol' heq
    have := h1.inj id id' B0 B0' g2 g2' ((solid_ren B0).1 hsol) ((solid_ren B0').1 hsol') heq
    subst this
    exact nodup_inj hn k k' id g1 g1'
  · obtain ⟨id, B0, g1, g2, rfl⟩ := hg k B hB
    rw [hρk k id g1]
    exact BoxRel.ren hro hρ B0 (h1.box id B0 g2)
  · rw [hc.size, show (renL ids slots).length = slots.length from ?_, hlen]
    · exact h2.1
    · clear hc hlen hs
      induction slots with
      | nil => rfl
      | cons x l ih => simp [renL, ih]
  · rw [hc.get t, getD_renL]
    rw [List.getD_eq_getElem?_getD]
    cases hx : slots[t]? with
    | none =>
      have ht : slots.length ≤ t := by simpa using hx
      have : a.tmps.getD t Go.undef = Go.undef := by
        rw [Array.getD_eq_getD_getElem?, Array.getElem?_eq_none (by rw [← h2.1, ← hlen]; exact ht)]
        rfl
      rw [this]; exact rfl
    | some x =>
      rcases hs t x hx with rfl | rfl
      · exact trivial
      · exact Rep.ren hro hρ _ _ (h2.2 t)

/-! ### What is handed back -/

/-! ### Segments and descent -/

noncomputable def segR (E : Env) (n : Nat) (fn : Func) (hint : Ty) (keep : List Item → List Bool) (items : List Item) (p : Plan) (slots : List SV) (boxes : List (Option Box)) : Tree Stop :=
  Fr.make slots.length slots fun fr => memFill boxes ⟨0, .e⟩ fun m => exec E n items p fr m fun o => match o with
    | .ret _ fr m => results E fn m fr fun v => .leaf (.done (give hint m v))
    | .stop items fr m => match live m (viewS fr (keep items) 0) with
      | ids => match nodupB ids with
        | true => .leaf (.at (enter items) fr.size (renL ids (viewS fr (keep items) 0)) (ids.map fun id => (m.get id).map (renB ids)))
        | false => .fail 170

/-- From such a state the code comes to its end, with this value. -/
def RunsR (P : Program) (fn : Func) (v : SV) (items : List Item) (slots : List SV) (boxes : List (Option Box)) : Prop :=
  ∀ fr m, Canon slots boxes fr m → ∀ w0 R0 ρ w a, SRel w0 R0 ρ w fr m a → ∀ (b : Frame) (cs : List Frame), ∃ ρ' w' a' todo u, MRel w0 R0 ρ' w' ⟨0, .e⟩ ∧ a'.defers = [] ∧ (∀ b, RO w0 R0 ρ w m b → RO w0 R0 ρ' w' ⟨0, .e⟩ b ∧ w'.heap[b]? = w.heap[b]?) ∧
    Steps P (lone (b.at a items) cs w) (lone { b.at a' todo with mode := .returning } cs w') ∧ (Go.results fn a'.tmps).run P w' = .ok u w' ∧ Rep (RO w0 R0 ρ' w' ⟨0, .e⟩) ρ' 0 w' v u

theorem runsR_seg {P : Program} {E : Env} (hK : Known P E) {n : Nat} {fn : Func} {hint : Ty} {keep : List Item → List Bool} {items : List Item} {p : Plan} {slots : List SV} {boxes : List (Option Box)} {v : SV} (hvd : v.data = true)
    (h : (segR E n fn hint keep items p slots boxes).holds fun o => match o with
      | .done v' => v' = v
      | .at items' size slots' boxes' => slots'.length = size ∧ RunsR P fn v items' slots' boxes') : RunsR P fn v items slots boxes := by
  intro fr0 m0 hc0 w0 R0 ρ w a hs b cs
  unfold segR at h
  obtain ⟨fr, h1, h2, h3, h4⟩ := make_holds h
  obtain ⟨m, h5, h6, h7, h8⟩ := memFill_holds boxes ⟨0, .e⟩ _ h1 fun id _ => rfl
  have hc : Canon slots boxes fr m := ⟨h2, h4, by rw [h6]; simp, fun id => by simpa using h8 id⟩
  obtain ⟨hs1, hro1⟩ := hc0.swap hc hs
  obtain ⟨out, h9, h10⟩ := exec_ok hK.e hK.s hK.mix n _ _ _ _ _ _ h5
  cases out with
  | ret p' fr' m' =>
    dsimp only at h9
    obtain ⟨v', k1, k2⟩ := results_holds hK.e h9
    obtain rfl : give hint m' v' = v := k1
    obtain ⟨ρ1, w1, a1, todo, g1, g2, g3⟩ := h10 w0 R0 ρ w a hs1 b cs
    obtain ⟨u, r1, r2⟩ := k2 w0 R0 ρ1 w1 a1 g1
    obtain ⟨e1, e2⟩ := g1.1.bare
    exact ⟨ρ1, w1, a1, todo, u, e1, g1.2.2, fun b hb => ⟨e2 b (g2.keep b ((hro1 b).1 hb)).1, (g2.keep b ((hro1 b).1 hb)).2⟩, g3, r1, give_rep g1.1 r2 hvd⟩
  | stop items' fr' m' =>
    dsimp only at h9
    split at h9
    · rename_i hnd
      have h10 : Reach P items fr m (.stop (enter items') fr' m') := by
        refine h10.trans ?_
        unfold enter
        split
        · exact Reach.step fun b a cs w _ => step_loop
        · exact Reach.step fun b a cs w _ => step_inLoop
        · exact Reach.refl _ _ _
      generalize hids : live m' (viewS fr' (keep items') 0) = ids at h9 hnd
      obtain ⟨k1, k5⟩ := h9
      obtain ⟨ρ1, w1, a1, g1, g2, g3⟩ := h10 w0 R0 ρ w a hs1 b cs
      obtain ⟨fr2, m2, hc2⟩ := Canon.of (slots := renL ids (viewS fr' (keep items') 0)) (boxes := ids.map fun id => (m'.get id).map (renB ids))
      have hlr : ∀ l : List SV, (renL ids l).length = l.length := fun l => by
        induction l with
        | nil => rfl
        | cons x l ih => simp [renL, ih]
      obtain ⟨e1, e2⟩ := g1.rename (nodupB_spec hnd) hc2 (by rw [← k1, hlr]) (fun i x hx => by simpa using viewS_get fr' _ 0 i x hx)
      obtain ⟨ρ3, w3, a3, todo, u, q1, q2, q3, q4, q5, q6⟩ := k5 fr2 m2 hc2 w0 R0 _ w1 a1 e1 b cs
      exact ⟨ρ3, w3, a3, todo, u, q1, q2, fun b hb => by
        have s1 := g2.keep b ((hro1 b).1 hb)
        have s2 := q3 b (e2 b s1.1)
        exact ⟨s2.1, s2.2.trans s1.2⟩, g3.trans q4, q5, q6⟩
    · exact h9.elim

/-- Descent: from every state that keeps the law, the code comes to its end. -/
theorem runsR_of {P : Program} {E : Env} (hK : Known P E) {n : Nat} {fn : Func} {hint : Ty} {v : SV} (hvd : v.data = true) {σ : Type} (inv : σ → Prop) (μ : σ → Nat) (keep : List Item → List Bool) (it : σ → List Item) (sl : σ → List SV) (bx : σ → List (Option Box)) (pl : σ → Plan)
    (h : ∀ s, inv s → (segR E n fn hint keep (it s) (pl s) (sl s) (bx s)).holds fun o => match o with
      | .done v' => v' = v
      | .at items' size slots' boxes' => slots'.length = size ∧ ((∃ s', inv s' ∧ μ s' < μ s ∧ items' = it s' ∧ slots' = sl s' ∧ boxes' = bx s') ∨ RunsR P fn v items' slots' boxes')) :
    ∀ s, inv s → RunsR P fn v (it s) (sl s) (bx s) := by
  have : ∀ k s, μ s < k → inv s → RunsR P fn v (it s) (sl s) (bx s) := by
    intro k
    induction k with
    | zero => exact fun s hk => absurd hk (Nat.not_lt_zero _)
    | succ k ih =>
      intro s hk hs
      refine runsR_seg hK hvd (E := E) (n := n) (hint := hint) (keep := keep) (p := pl s) (Tree.holds_mono (fun o ho => ?_) _ (h s hs))
      cases o with
      | done v' => exact ho
      | «at» items' size slots' boxes' =>
        obtain ⟨a6, ho⟩ := ho
        rcases ho with ⟨s', a1, a2, rfl, rfl, rfl⟩ | ho
        · exact ⟨a6, ih s' (by omega) a1⟩
        · exact ⟨a6, ho⟩
  exact fun s hs => this _ s (Nat.lt_succ_self _) hs

/-- A whole call: its own first segment, then descent. -/
theorem scallR_loops {P : Program} {f : FuncId} {args : List SV} {v : SV} (hd : dataL args = true) (hvd : v.data = true)
    (hf : (match P.funcs[f]? with
      | some fn => fn.body.isSome && !(fn.name == "runtime.NumGoroutine") && Nat.ble args.length fn.ntmps
      | none => false) = true)
    (h : RunsR P (fnOf P f) v [.code (bodyOf P f)] (args ++ List.replicate ((fnOf P f).ntmps - args.length) .undef) []) : SCall P f args v := by
  unfold fnOf bodyOf at h
  unfold fnOf at h
  cases hx : P.funcs[f]? with
  | none => rw [hx] at hf; cases hf
  | some fn =>
    rw [hx] at hf h
    dsimp only at hf h
    simp only [Bool.and_eq_true, Bool.not_eq_true'] at hf
    obtain ⟨⟨h1, hn⟩, h3⟩ := hf
    obtain ⟨body, hb⟩ := Option.isSome_iff_exists.mp h1
    rw [hb] at h
    have hl := Nat.le_of_ble_eq_true h3
    intro m w0 R0 ρ w vs hm hvs
    obtain ⟨fr, mc0, hc⟩ := Canon.of (slots := args ++ List.replicate (fn.ntmps - args.length) .undef) (boxes := [])
    have hc' : Canon (args ++ List.replicate (fn.ntmps - args.length) .undef) [] fr ⟨0, .e⟩ := ⟨hc.size, hc.get, rfl, fun id => rfl⟩
    rw [callFunc_enter hx hb hn]
    obtain ⟨o1, o2⟩ := own_mem hm ρ
    have hfr := frame_rel (size := fn.ntmps) (by rw [hc.size]; simp; omega) (.inr hl) (fun t => by rw [hc.get, pad_get]) (RepL.data (R' := RO w (RO w0 R0 ρ w m) ρ w ⟨0, .e⟩) (ρ' := ρ) (n' := 0) o2 args vs hd hvs)
    intro cs
    let b : Frame := { (default : Frame) with fn := f, kind := .normal }
    have henter : Frame.enter P f vs.toArray .normal = b.at { tmps := vs.toArray ++ Array.replicate (fn.ntmps - vs.toArray.size) Go.undef, defers := [] } [.code body] := by
      simp [Frame.enter, Frame.at, hx, hb, b]
    obtain ⟨ρ', w', a', todo, u, q1, q2, q3, q4, q5, q6⟩ := h fr ⟨0, .e⟩ hc' w (RO w0 R0 ρ w m) ρ w { tmps := vs.toArray ++ Array.replicate (fn.ntmps - vs.toArray.size) Go.undef, defers := [] } ⟨o1, hfr, rfl⟩ b cs
    have hst := Hand.start hm q1
    obtain ⟨k1, k2⟩ := hst.finish hm q1
    exact ⟨.returned u, w', _, ⟨u, rfl, ρ, k1, k2, Rep.data (fun b hb => hst.ro b (.inr hb)) v u hvd q6⟩, by rw [henter]; exact q4, rfl, rfl, q2, rfl, fn, hx, q5⟩
end Go.Sx
set_option linter.unusedSimpArgs false
set_option linter.unusedVariables false
namespace Go.Sx
open Go.RowKit

/-- A call in a memory that is not looked at. -/
noncomputable def execAt (E : Env) (n : Nat) (f : FuncId) (args : List SV) (p : Plan) (m : Mem) : Tree (SV × Mem) :=
  match E.fn f with
  | some fn => match fn.body with
    | some body => match fn.name == "runtime.NumGoroutine" with
      | false => Fr.make fn.ntmps args fun fr => exec E n [.code body] p fr m fun o => match o with
        | .ret _ fr m => results E fn m fr fun v => .leaf (v, m)
        | .stop .. => .fail 142
      | true => .fail 143
    | none => .fail 144
  | none => .fail 145

theorem scall_at {P : Program} {E : Env} (hK : Known P E) {n : Nat} {f : FuncId} {args : List SV} {p : Plan} {v : SV} (h : ∀ m, (execAt E n f args p m).holds fun x => x = (v, m)) : SCall P f args v := by
  intro m w0 R0 ρ w vs hm hvs
  have h := h m
  unfold execAt at h
  split at h
  · rename_i fn hfn
    have hf := hK.e.fn f fn hfn
    split at h
    · rename_i body hb
      split at h
      · rename_i hn
        obtain ⟨fr, h1, h2, h3, h4⟩ := make_holds h
        obtain ⟨out, h5, h6⟩ := exec_ok hK.e hK.s hK.mix n _ _ _ _ _ _ h1
        cases out with
        | stop it fr' m' => exact h5.elim
        | ret p' fr' mc =>
          dsimp only at h5
          obtain ⟨v', h7, h8⟩ := results_holds hK.e h5
          have h7 : (v', mc) = (v, m) := h7
          injection h7 with e1 e2
          subst e1 e2
          rw [callFunc_enter hf hb hn]
          exact calls_of_reach hf hb h6 h8 hm (frame_rel h2 h3 h4 hvs)
      · exact h.elim
    · exact h.elim
  · exact h.elim

/-- The one leaf of a tree with nothing unknown. -/
def Tree.closed {α : Type} : Tree α → Option α
  | .leaf a => some a
  | .req b t => match b with
    | true => t.closed
    | false => none
  | .node b t f => match b with
    | true => t.closed
    | false => f.closed
  | .fail _ => none
theorem Tree.closed_holds {α : Type} {v : α} : ∀ (t : Tree α), t.closed = some v → t.holds fun x => x = v
  | .leaf a, h => by injection h
  | .req b t, h => by
    cases b with
    | false => cases h
    | true => exact ⟨rfl, closed_holds t h⟩
  | .node b t f, h => by
    cases b with
    | false => exact ⟨fun hb => (by cases hb), fun _ => closed_holds f h⟩
    | true => exact ⟨fun _ => closed_holds t h, fun hb => (by cases hb)⟩
  | .fail _, h => by cases h
theorem scall_closed {P : Program} (hmix : P.follows .mixedOrders = true) (l : List Fact) (hl : allOk P l) (n : Nat) (p : Plan) {f : FuncId} {args : List SV} {v : SV}
    (ht : (execFn (Env.of P (sumOf l)) n f args p).vals.closed = some v) (hd : dataL args = true) (hv : v.data = true) : SCall P f args v :=
  scall_v hmix l hl n p rfl (Tree.closed_holds _ ht) hd hv

/-! ### Facts by their arguments -/

def I64 (n : Int) : SV := .int .i64 n
def fact0 (f : FuncId) (t : Tree SV) : Fact := ⟨f, fun args => match args with
  | [] => some t
  | _ => none⟩
theorem fact0_ok {P : Program} {f : FuncId} {t : Tree SV} (k : t.says (SCall P f [])) : (fact0 f t).ok P := fun args t' ht => by
  simp only [fact0] at ht
  split at ht
  · injection ht with ht; subst ht; exact k
  · cases ht
def factI (f : FuncId) (h : Int → Tree SV) : Fact := ⟨f, fun args => match args with
  | [.int .i64 a] => some (h a)
  | _ => none⟩
theorem factI_ok {P : Program} {f : FuncId} {h : Int → Tree SV} (k : ∀ a, (h a).says (SCall P f [I64 a])) : (factI f h).ok P := fun args t ht => by
  simp only [factI] at ht
  split at ht
  · injection ht with ht; subst ht; exact k _
  · cases ht
def factII (f : FuncId) (h : Int → Int → Tree SV) : Fact := ⟨f, fun args => match args with
  | [.int .i64 a, .int .i64 b] => some (h a b)
  | _ => none⟩
theorem factII_ok {P : Program} {f : FuncId} {h : Int → Int → Tree SV} (k : ∀ a b, (h a b).says (SCall P f [I64 a, I64 b])) : (factII f h).ok P := fun args t ht => by
  simp only [factII] at ht
  split at ht
  · injection ht with ht; subst ht; exact k _ _
  · cases ht
def factIII (f : FuncId) (h : Int → Int → Int → Tree SV) : Fact := ⟨f, fun args => match args with
  | [.int .i64 a, .int .i64 b, .int .i64 c] => some (h a b c)
  | _ => none⟩
theorem factIII_ok {P : Program} {f : FuncId} {h : Int → Int → Int → Tree SV} (k : ∀ a b c, (h a b c).says (SCall P f [I64 a, I64 b, I64 c])) : (factIII f h).ok P := fun args t ht => by
  simp only [factIII] at ht
  split at ht
  · injection ht with ht; subst ht; exact k _ _ _
  · cases ht
def factS (f : FuncId) (h : List UInt8 → Tree SV) : Fact := ⟨f, fun args => match args with
  | [.str a] => some (h a)
  | _ => none⟩
theorem factS_ok {P : Program} {f : FuncId} {h : List UInt8 → Tree SV} (k : ∀ a, (h a).says (SCall P f [.str a])) : (factS f h).ok P := fun args t ht => by
  simp only [factS] at ht
  split at ht
  · injection ht with ht; subst ht; exact k _
  · cases ht

/-! ### Plans of segments -/

def keepS (n : Nat) (ks : List Nat) : List Item → List Bool := fun _ => (List.range n).map fun i => ks.any fun j => Nat.beq i j
def slotsS (n : Nat) (ks : List (Nat × SV)) : List SV := (List.range n).map fun i => (ks.lookup i).getD .top
theorem slotsS_len (n : Nat) (ks : List (Nat × SV)) : (slotsS n ks).length = n := by simp [slotsS]
theorem renL_len (ids : List Nat) (l : List SV) : (renL ids l).length = l.length := by
  induction l with
  | nil => rfl
  | cons x l ih => simp [renL, ih]
noncomputable def startS (P : Program) (f : Nat) (args : List SV) : List SV := args ++ List.replicate ((fnOf P f).ntmps - args.length) .undef
noncomputable def codeS (P : Program) (f : Nat) : List Item := [.code (bodyOf P f)]
end Go.Sx
set_option linter.unusedSimpArgs false
set_option linter.unusedVariables false
namespace Go.Proofs.YtkmohnciiincmaaDoor
open Go.Sx

theorem mix : Tryd.prog.follows .mixedOrders = true := by kernel_rfl

structure C where
  code : Int
  has : Int
  x : Int
  y : Int
  z : Int
  e : Int
  f : Int
  s : Int
def C.cells (c : C) : List SV := [I64 c.code, I64 c.has, I64 c.x, I64 c.y, I64 c.z, I64 c.e, I64 c.f, I64 c.s]
def C.sv (c : C) : SV := .agg c.cells

def oneS (k : Int) : Prop := k = 4 ∨ k = 1104 ∨ k = 1109 ∨ k = 1140 ∨ k = 1190 ∨ k = 1106
def none0 (k : Int) : Prop := k = 28 ∨ k = 1024 ∨ k = 1025 ∨ k = 1107 ∨ k = 1112 ∨ k = 1999
instance (k : Int) : Decidable (oneS k) := by unfold oneS; infer_instance
instance (k : Int) : Decidable (none0 k) := by unfold none0; infer_instance
/-- The words that a code may have. -/
def may (k : Int) : Int := if k = 0 then 23 else if k = 1 then 31 else if oneS k then 32 else 0
/-- Does it need all of them? -/
def allW (k : Int) : Bool := decide (oneS k) || decide (none0 k)
/-- Is it a code? -/
def okC (k : Int) : Bool := decide (k = 0) || (decide (k = 1) || (decide (oneS k) || decide (none0 k)))

def lo (k : Int) (w : Int) : Int := if w = 4 then 1 else if w ≠ 5 then -1073741824 else 0
def hi (k : Int) (w : Int) : Int := if w = 4 then 1048576 else if w ≠ 5 then 1073741824 else if k = 4 then 1048576 else if k = 1106 then 255 else 400000

def C.num (c : C) (w : Int) : Int := if w = 0 then c.x else if w = 1 then c.y else if w = 2 then c.z else if w = 3 then c.e else if w = 4 then c.f else c.s

/-- Facts on commands. -/
def factC (f : FuncId) (h : C → Tree SV) : Fact := ⟨f, fun args => match args with
  | [.agg [.int .i64 a0, .int .i64 a1, .int .i64 a2, .int .i64 a3, .int .i64 a4, .int .i64 a5, .int .i64 a6, .int .i64 a7]] => some (h ⟨a0, a1, a2, a3, a4, a5, a6, a7⟩)
  | _ => none⟩
theorem factC_ok {P : Program} {f : FuncId} {h : C → Tree SV} (k : ∀ c, (h c).says (SCall P f [c.sv])) : (factC f h).ok P := fun args t ht => by
  simp only [factC] at ht
  split at ht
  · injection ht with ht; subst ht; exact k ⟨_, _, _, _, _, _, _, _⟩
  · cases ht

def fWords : Fact := factI 12 fun k => .leaf (.tuple [I64 (may k), .bool (allW k), .bool (okC k)])
def fSpan : Fact := factII 26 fun k w => .leaf (.tuple [I64 (lo k w), I64 (hi k w)])
def fAllowed : Fact := factI 20 fun k => .leaf (I64 (may k))
def fComplete : Fact := factII 23 fun k h => .leaf (.bool (!(may k == 32) || h == 32))
def inR (n l h : Int) : Bool := decide (l ≤ n) && decide (n ≤ h)
def rangedB (k w n : Int) : Bool := if w < 4 then inR n (-1073741824) 1073741824 else if w = 4 then inR n 1 1048576 else if k = 4 then inR n 0 1048576 else if k = 1106 then inR n 0 255 else inR n 0 400000
def fRanged : Fact := factIII 22 fun k w n => .leaf (.bool (rangedB k w n))
/-- The place of a word's number. -/
def fField : Fact := ⟨16, fun args => match args with
  | [.ptr id off, .int .i64 w] => some (.node (w == 0) (.leaf (.ptr id (off + 2))) (.node (w == 1) (.leaf (.ptr id (off + 3))) (.node (w == 2) (.leaf (.ptr id (off + 4))) (.node (w == 3) (.leaf (.ptr id (off + 5))) (.node (w == 4) (.leaf (.ptr id (off + 6))) (.leaf (.ptr id (off + 7))))))))
  | _ => none⟩
def codes : List Int := [0, 1, 4, 28, 1024, 1025, 1104, 1106, 1107, 1109, 1112, 1140, 1190, 1999]
def fCodes : Fact := fact0 30 (.leaf (.list (.int .i64) codes))
end Go.Proofs.YtkmohnciiincmaaDoor
set_option linter.unusedSimpArgs false
set_option linter.unusedVariables false
set_option maxRecDepth 100000
namespace Go.Proofs.YtkmohnciiincmaaDoor
open Go.Sx
theorem s_words (k : Int) : SCall Tryd.prog 12 [I64 k] (.tuple [I64 (may k), .bool (allW k), .bool (okC k)]) :=
  scall_v mix [] trivial 1000 (.fork (.all) (.fork (.all) (.fork (.fork (.all) (.fork (.fork (.all) (.all)) (.fork (.fork (.all) (.all)) (.fork (.fork (.all) (.all)) (.fork (.fork (.all) (.all)) (.fork (.fork (.all) (.all)) (.fork (.all) (.all)))))))) (.fork (.fork (.all) (.fork (.fork (.all) (.all)) (.fork (.fork (.all) (.all)) (.fork (.fork (.all) (.all)) (.fork (.fork (.all) (.all)) (.fork (.fork (.all) (.all)) (.fork (.all) (.all)))))))) (.fork (.fork (.all) (.fork (.fork (.all) (.all)) (.fork (.fork (.all) (.all)) (.fork (.fork (.all) (.all)) (.fork (.fork (.all) (.all)) (.fork (.fork (.all) (.all)) (.fork (.all) (.all)))))))) (.fork (.fork (.all) (.fork (.fork (.all) (.all)) (.fork (.fork (.all) (.all)) (.fork (.fork (.all) (.all)) (.fork (.fork (.all) (.all)) (.fork (.fork (.all) (.all)) (.fork (.all) (.all)))))))) (.fork (.fork (.all) (.fork (.fork (.all) (.all)) (.fork (.fork (.all) (.all)) (.fork (.fork (.all) (.all)) (.fork (.fork (.all) (.all)) (.fork (.fork (.all) (.all)) (.fork (.all) (.all)))))))) (.fork (.all) (.fork (.fork (.all) (.all)) (.fork (.fork (.all) (.all)) (.fork (.fork (.all) (.all)) (.fork (.fork (.all) (.all)) (.fork (.fork (.all) (.all)) (.fork (.all) (.all)))))))))))))))
   (t := .node (k == 0)
 (.leaf (SV.tuple [I64 23, SV.bool false, SV.bool true]))
 (.node (k == 1)
  (.leaf (SV.tuple [I64 31, SV.bool false, SV.bool true]))
  (.node (k == 4)
   (.node (k == 4)
    (.leaf (SV.tuple [I64 32, SV.bool true, SV.bool true]))
    (.node (k == 28)
     (.node (k == 28)
      (.leaf (SV.tuple [I64 0, SV.bool true, SV.bool true]))
      (.leaf (SV.tuple [I64 0, SV.bool false, SV.bool false])))
     (.node (k == 1024)
      (.node (k == 1024)
       (.leaf (SV.tuple [I64 0, SV.bool true, SV.bool true]))
       (.leaf (SV.tuple [I64 0, SV.bool false, SV.bool false])))
      (.node (k == 1025)
       (.node (k == 1025)
        (.leaf (SV.tuple [I64 0, SV.bool true, SV.bool true]))
        (.leaf (SV.tuple [I64 0, SV.bool false, SV.bool false])))
       (.node (k == 1107)
        (.node (k == 1107)
         (.leaf (SV.tuple [I64 0, SV.bool true, SV.bool true]))
         (.leaf (SV.tuple [I64 0, SV.bool false, SV.bool false])))
        (.node (k == 1112)
         (.node (k == 1112)
          (.leaf (SV.tuple [I64 0, SV.bool true, SV.bool true]))
          (.leaf (SV.tuple [I64 0, SV.bool false, SV.bool false])))
         (.node (k == 1999)
          (.leaf (SV.tuple [I64 0, SV.bool true, SV.bool true]))
          (.leaf (SV.tuple [I64 0, SV.bool false, SV.bool false])))))))))
   (.node (k == 1104)
    (.node (k == 1104)
     (.leaf (SV.tuple [I64 32, SV.bool true, SV.bool true]))
     (.node (k == 28)
      (.node (k == 28)
       (.leaf (SV.tuple [I64 0, SV.bool true, SV.bool true]))
       (.leaf (SV.tuple [I64 0, SV.bool false, SV.bool false])))
      (.node (k == 1024)
       (.node (k == 1024)
        (.leaf (SV.tuple [I64 0, SV.bool true, SV.bool true]))
        (.leaf (SV.tuple [I64 0, SV.bool false, SV.bool false])))
       (.node (k == 1025)
        (.node (k == 1025)
         (.leaf (SV.tuple [I64 0, SV.bool true, SV.bool true]))
         (.leaf (SV.tuple [I64 0, SV.bool false, SV.bool false])))
        (.node (k == 1107)
         (.node (k == 1107)
          (.leaf (SV.tuple [I64 0, SV.bool true, SV.bool true]))
          (.leaf (SV.tuple [I64 0, SV.bool false, SV.bool false])))
         (.node (k == 1112)
          (.node (k == 1112)
           (.leaf (SV.tuple [I64 0, SV.bool true, SV.bool true]))
           (.leaf (SV.tuple [I64 0, SV.bool false, SV.bool false])))
          (.node (k == 1999)
           (.leaf (SV.tuple [I64 0, SV.bool true, SV.bool true]))
           (.leaf (SV.tuple [I64 0, SV.bool false, SV.bool false])))))))))
    (.node (k == 1109)
     (.node (k == 1109)
      (.leaf (SV.tuple [I64 32, SV.bool true, SV.bool true]))
      (.node (k == 28)
       (.node (k == 28)
        (.leaf (SV.tuple [I64 0, SV.bool true, SV.bool true]))
        (.leaf (SV.tuple [I64 0, SV.bool false, SV.bool false])))
       (.node (k == 1024)
        (.node (k == 1024)
         (.leaf (SV.tuple [I64 0, SV.bool true, SV.bool true]))
         (.leaf (SV.tuple [I64 0, SV.bool false, SV.bool false])))
        (.node (k == 1025)
         (.node (k == 1025)
          (.leaf (SV.tuple [I64 0, SV.bool true, SV.bool true]))
          (.leaf (SV.tuple [I64 0, SV.bool false, SV.bool false])))
         (.node (k == 1107)
          (.node (k == 1107)
           (.leaf (SV.tuple [I64 0, SV.bool true, SV.bool true]))
           (.leaf (SV.tuple [I64 0, SV.bool false, SV.bool false])))
          (.node (k == 1112)
           (.node (k == 1112)
            (.leaf (SV.tuple [I64 0, SV.bool true, SV.bool true]))
            (.leaf (SV.tuple [I64 0, SV.bool false, SV.bool false])))
           (.node (k == 1999)
            (.leaf (SV.tuple [I64 0, SV.bool true, SV.bool true]))
            (.leaf (SV.tuple [I64 0, SV.bool false, SV.bool false])))))))))
     (.node (k == 1140)
      (.node (k == 1140)
       (.leaf (SV.tuple [I64 32, SV.bool true, SV.bool true]))
       (.node (k == 28)
        (.node (k == 28)
         (.leaf (SV.tuple [I64 0, SV.bool true, SV.bool true]))
         (.leaf (SV.tuple [I64 0, SV.bool false, SV.bool false])))
        (.node (k == 1024)
         (.node (k == 1024)
          (.leaf (SV.tuple [I64 0, SV.bool true, SV.bool true]))
          (.leaf (SV.tuple [I64 0, SV.bool false, SV.bool false])))
         (.node (k == 1025)
          (.node (k == 1025)
           (.leaf (SV.tuple [I64 0, SV.bool true, SV.bool true]))
           (.leaf (SV.tuple [I64 0, SV.bool false, SV.bool false])))
          (.node (k == 1107)
           (.node (k == 1107)
            (.leaf (SV.tuple [I64 0, SV.bool true, SV.bool true]))
            (.leaf (SV.tuple [I64 0, SV.bool false, SV.bool false])))
           (.node (k == 1112)
            (.node (k == 1112)
             (.leaf (SV.tuple [I64 0, SV.bool true, SV.bool true]))
             (.leaf (SV.tuple [I64 0, SV.bool false, SV.bool false])))
            (.node (k == 1999)
             (.leaf (SV.tuple [I64 0, SV.bool true, SV.bool true]))
             (.leaf (SV.tuple [I64 0, SV.bool false, SV.bool false])))))))))
      (.node (k == 1190)
       (.node (k == 1190)
        (.leaf (SV.tuple [I64 32, SV.bool true, SV.bool true]))
        (.node (k == 28)
         (.node (k == 28)
          (.leaf (SV.tuple [I64 0, SV.bool true, SV.bool true]))
          (.leaf (SV.tuple [I64 0, SV.bool false, SV.bool false])))
         (.node (k == 1024)
          (.node (k == 1024)
           (.leaf (SV.tuple [I64 0, SV.bool true, SV.bool true]))
           (.leaf (SV.tuple [I64 0, SV.bool false, SV.bool false])))
          (.node (k == 1025)
           (.node (k == 1025)
            (.leaf (SV.tuple [I64 0, SV.bool true, SV.bool true]))
            (.leaf (SV.tuple [I64 0, SV.bool false, SV.bool false])))
           (.node (k == 1107)
            (.node (k == 1107)
             (.leaf (SV.tuple [I64 0, SV.bool true, SV.bool true]))
             (.leaf (SV.tuple [I64 0, SV.bool false, SV.bool false])))
            (.node (k == 1112)
             (.node (k == 1112)
              (.leaf (SV.tuple [I64 0, SV.bool true, SV.bool true]))
              (.leaf (SV.tuple [I64 0, SV.bool false, SV.bool false])))
             (.node (k == 1999)
              (.leaf (SV.tuple [I64 0, SV.bool true, SV.bool true]))
              (.leaf (SV.tuple [I64 0, SV.bool false, SV.bool false])))))))))
       (.node (k == 1106)
        (.leaf (SV.tuple [I64 32, SV.bool true, SV.bool true]))
        (.node (k == 28)
         (.node (k == 28)
          (.leaf (SV.tuple [I64 0, SV.bool true, SV.bool true]))
          (.leaf (SV.tuple [I64 0, SV.bool false, SV.bool false])))
         (.node (k == 1024)
          (.node (k == 1024)
           (.leaf (SV.tuple [I64 0, SV.bool true, SV.bool true]))
           (.leaf (SV.tuple [I64 0, SV.bool false, SV.bool false])))
          (.node (k == 1025)
           (.node (k == 1025)
            (.leaf (SV.tuple [I64 0, SV.bool true, SV.bool true]))
            (.leaf (SV.tuple [I64 0, SV.bool false, SV.bool false])))
           (.node (k == 1107)
            (.node (k == 1107)
             (.leaf (SV.tuple [I64 0, SV.bool true, SV.bool true]))
             (.leaf (SV.tuple [I64 0, SV.bool false, SV.bool false])))
            (.node (k == 1112)
             (.node (k == 1112)
              (.leaf (SV.tuple [I64 0, SV.bool true, SV.bool true]))
              (.leaf (SV.tuple [I64 0, SV.bool false, SV.bool false])))
             (.node (k == 1999)
              (.leaf (SV.tuple [I64 0, SV.bool true, SV.bool true]))
              (.leaf (SV.tuple [I64 0, SV.bool false, SV.bool false]))))))))))))))))
   (by kernel_rfl) (by 
    simp only [Tree.holds]
    repeat' (first | apply And.intro | intro _)
    all_goals (simp_all [may, allW, okC, lo, hi, oneS, none0, rangedB, inR, I64, C.sv, C.cells])) (by kernel_rfl) (by kernel_rfl)
theorem o_words : fWords.ok Tryd.prog := factI_ok s_words
theorem s_span (k w : Int) : SCall Tryd.prog 26 [I64 k, I64 w] (.tuple [I64 (lo k w), I64 (hi k w)]) :=
  scall_v mix [] trivial 1000 (.fork (.all) (.fork (.all) (.fork (.all) (.fork (.all) (.all)))))
   (t := .node (w == 4)
 (.leaf (SV.tuple [I64 1, I64 1048576]))
 (.node (w != 5)
  (.leaf (SV.tuple [I64 (-1073741824), I64 1073741824]))
  (.node (k == 4)
   (.leaf (SV.tuple [I64 0, I64 1048576]))
   (.node (k == 1106)
    (.leaf (SV.tuple [I64 0, I64 255]))
    (.leaf (SV.tuple [I64 0, I64 400000]))))))
   (by kernel_rfl) (by 
    simp only [Tree.holds]
    repeat' (first | apply And.intro | intro _)
    all_goals (simp_all [may, allW, okC, lo, hi, oneS, none0, rangedB, inR, I64, C.sv, C.cells])) (by kernel_rfl) (by kernel_rfl)
theorem o_span : fSpan.ok Tryd.prog := factII_ok s_span
theorem s_allowed (k : Int) : SCall Tryd.prog 20 [I64 k] (I64 (may k)) :=
  scall_v mix [] trivial 1000 (.fork (.all) (.fork (.all) (.fork (.fork (.all) (.all)) (.fork (.fork (.all) (.all)) (.fork (.fork (.all) (.all)) (.fork (.fork (.all) (.all)) (.fork (.fork (.all) (.all)) (.fork (.all) (.all)))))))))
   (t := .node (k == 0)
 (.leaf (I64 23))
 (.node (k == 1)
  (.leaf (I64 31))
  (.node (k == 4)
   (.node (k == 4)
    (.leaf (I64 32))
    (.leaf (I64 0)))
   (.node (k == 1104)
    (.node (k == 1104)
     (.leaf (I64 32))
     (.leaf (I64 0)))
    (.node (k == 1109)
     (.node (k == 1109)
      (.leaf (I64 32))
      (.leaf (I64 0)))
     (.node (k == 1140)
      (.node (k == 1140)
       (.leaf (I64 32))
       (.leaf (I64 0)))
      (.node (k == 1190)
       (.node (k == 1190)
        (.leaf (I64 32))
        (.leaf (I64 0)))
       (.node (k == 1106)
        (.leaf (I64 32))
        (.leaf (I64 0))))))))))
   (by kernel_rfl) (by 
    simp only [Tree.holds]
    repeat' (first | apply And.intro | intro _)
    all_goals (simp_all [may, allW, okC, lo, hi, oneS, none0, rangedB, inR, I64, C.sv, C.cells])) (by kernel_rfl) (by kernel_rfl)
theorem o_allowed : fAllowed.ok Tryd.prog := factI_ok s_allowed
theorem s_complete (k h : Int) : SCall Tryd.prog 23 [I64 k, I64 h] (.bool (!(may k == 32) || h == 32)) :=
  scall_v mix [fAllowed] ⟨o_allowed, trivial⟩ 1000 (.fork (.lit (.lit (.all))) (.lit (.lit (.all))))
   (t := .node (may k != 32)
 (.leaf (SV.bool true))
 (.leaf (SV.bool (h == 32))))
   (by kernel_rfl) (by 
    simp only [Tree.holds]
    repeat' (first | apply And.intro | intro _)
    all_goals (simp_all [may, allW, okC, lo, hi, oneS, none0, rangedB, inR, I64, C.sv, C.cells])) (by kernel_rfl) (by kernel_rfl)
theorem o_complete : fComplete.ok Tryd.prog := factII_ok s_complete
theorem s_ranged (k w n : Int) : SCall Tryd.prog 22 [I64 k, I64 w, I64 n] (.bool (rangedB k w n)) :=
  scall_v mix [] trivial 1000 (.fork (.fork (.lit (.lit (.all))) (.lit (.lit (.all)))) (.fork (.fork (.lit (.lit (.all))) (.lit (.lit (.all)))) (.fork (.fork (.lit (.lit (.all))) (.lit (.lit (.all)))) (.fork (.fork (.lit (.lit (.all))) (.lit (.lit (.all)))) (.fork (.lit (.lit (.all))) (.lit (.lit (.all))))))))
   (t := .node (decide (w < 4))
 (.node (decide (n ≥ -1073741824))
  (.leaf (SV.bool (decide (n ≤ 1073741824))))
  (.leaf (SV.bool false)))
 (.node (w == 4)
  (.node (decide (n ≥ 1))
   (.leaf (SV.bool (decide (n ≤ 1048576))))
   (.leaf (SV.bool false)))
  (.node (k == 4)
   (.node (decide (n ≥ 0))
    (.leaf (SV.bool (decide (n ≤ 1048576))))
    (.leaf (SV.bool false)))
   (.node (k == 1106)
    (.node (decide (n ≥ 0))
     (.leaf (SV.bool (decide (n ≤ 255))))
     (.leaf (SV.bool false)))
    (.node (decide (n ≥ 0))
     (.leaf (SV.bool (decide (n ≤ 400000))))
     (.leaf (SV.bool false)))))))
   (by kernel_rfl) (by 
    simp only [Tree.holds]
    repeat' (first | apply And.intro | intro _)
    all_goals (simp_all [rangedB, inR, I64])
    all_goals ((repeat' split) <;> intros <;> omega)) (by kernel_rfl) (by kernel_rfl)
theorem o_ranged : fRanged.ok Tryd.prog := factIII_ok s_ranged
theorem hK {l : List Fact} (h : allOk Tryd.prog l) : Known Tryd.prog (Env.of Tryd.prog (sumOf l)) := known_of mix (sumOf_ok l h.all)
theorem s_field (id off : Nat) (w : Int) : (Tree.node (w == 0) (.leaf (.ptr id (off + 2))) (.node (w == 1) (.leaf (.ptr id (off + 3))) (.node (w == 2) (.leaf (.ptr id (off + 4))) (.node (w == 3) (.leaf (.ptr id (off + 5))) (.node (w == 4) (.leaf (.ptr id (off + 6))) (.leaf (.ptr id (off + 7)))))))).says (SCall Tryd.prog 16 [.ptr id off, I64 w]) := by
  have key : ∀ v, (∀ m, (execAt (Env.of Tryd.prog (sumOf [])) 1000 16 [.ptr id off, I64 w] .all m).holds fun x => x = (v, m)) → SCall Tryd.prog 16 [.ptr id off, I64 w] v := fun v h => scall_at (hK (l := []) trivial) h
  have e : ∀ m, execAt (Env.of Tryd.prog (sumOf [])) 1000 16 [.ptr id off, I64 w] .all m = .node (w == 0) (.leaf (.ptr id (off + 2), m)) (.node (w == 1) (.leaf (.ptr id (off + 3), m)) (.node (w == 2) (.leaf (.ptr id (off + 4), m)) (.node (w == 3) (.leaf (.ptr id (off + 5), m)) (.node (w == 4) (.leaf (.ptr id (off + 6), m)) (.leaf (.ptr id (off + 7), m)))))) := fun m => by kernel_rfl
  simp only [Tree.says]
  refine ⟨fun h => key _ fun m => ?_, fun h1 => ⟨fun h => key _ fun m => ?_, fun h2 => ⟨fun h => key _ fun m => ?_, fun h3 => ⟨fun h => key _ fun m => ?_, fun h4 => ⟨fun h => key _ fun m => ?_, fun h5 => key _ fun m => ?_⟩⟩⟩⟩⟩ <;> rw [e m] <;> simp_all [Tree.holds]
theorem o_field : fField.ok Tryd.prog := fun args t ht => by
  simp only [fField] at ht
  split at ht
  · injection ht with ht; subst ht; exact s_field _ _ _
  · cases ht
end Go.Proofs.YtkmohnciiincmaaDoor
set_option linter.unusedSimpArgs false
set_option linter.unusedVariables false
set_option maxRecDepth 100000
namespace Go.Proofs.YtkmohnciiincmaaDoor
open Go.Sx
def codes0_p : Plan := .all
noncomputable def codes0_t (_ : Unit) : Tree Stop :=
   .leaf (Stop.done (SV.list (Ty.int IntKind.i64) codes))
theorem codes0 (_ : Unit) : segR (Env.of Tryd.prog (sumOf [])) 1000 (fnOf Tryd.prog 30) .unit (keepS 10 []) (codeS Tryd.prog 30) codes0_p (startS Tryd.prog 30 []) [] = codes0_t () := by kernel_rfl
theorem s_codes : SCall Tryd.prog 30 [] (.list (.int .i64) codes) := by
  refine scallR_loops rfl rfl (by kernel_rfl) (runsR_seg (hK (l := []) trivial) (n := 1000) (hint := .unit) (keep := keepS 10 []) (p := codes0_p) (boxes := []) rfl ?_)
  have e := codes0 ()
  unfold startS codeS at e
  erw [e]
  exact rfl
theorem o_codes : fCodes.ok Tryd.prog := fact0_ok s_codes
def valid0_p : Plan := .fork (.lit (.lit (.lit (.lit (.lit (.lit (.lit (.lit (.lit (.lit (.all))))))))))) (.lit (.lit (.lit (.lit (.lit (.fork (.lit (.lit (.lit (.lit (.all))))) (.lit (.fork (.lit (.lit (.lit (.lit (.lit (.lit (.fork (.all) (.all)))))))) (.lit (.lit (.lit (.lit (.lit (.lit (.lit (.all))))))))))))))))
noncomputable def valid0_t (c : C) : Tree Stop :=
   .node (!okC c.code)
 (.leaf (Stop.done (SV.bool false)))
 (.node (IntKind.i64.wrap ↑(BitVec.ofInt 64 c.has &&& ~~~BitVec.ofInt 64 (may c.code)).toNat != 0)
  (.leaf (Stop.done (SV.bool false)))
  (.node (allW c.code)
   (.node (c.has != may c.code)
    (.leaf (Stop.done (SV.bool false)))
    (.leaf (Stop.at (loopOf Tryd.prog 9 0) 64 (slotsS 64 [(1, SV.ptr 0 0), (35, I64 0)]) [some (Box.cells [I64 c.code, I64 c.has, I64 c.x, I64 c.y, I64 c.z, I64 c.e, I64 c.f, I64 c.s])])))
   (.leaf (Stop.at (loopOf Tryd.prog 9 0) 64 (slotsS 64 [(1, SV.ptr 0 0), (35, I64 0)]) [some (Box.cells [I64 c.code, I64 c.has, I64 c.x, I64 c.y, I64 c.z, I64 c.e, I64 c.f, I64 c.s])]))))
theorem valid0 (c : C) : segR (Env.of Tryd.prog (sumOf [fWords, fSpan, fField])) 1000 (fnOf Tryd.prog 9) .unit (keepS 64 [1, 35]) (codeS Tryd.prog 9) valid0_p (startS Tryd.prog 9 [c.sv]) [] = valid0_t c := by kernel_rfl
def valid1_p : Plan := .fork (.fork (.fork (.fork (.lit (.lit (.lit (.lit (.all))))) (.lit (.lit (.lit (.fork (.all) (.all)))))) (.fork (.lit (.lit (.lit (.lit (.all))))) (.lit (.lit (.lit (.fork (.all) (.all))))))) (.fork (.fork (.fork (.lit (.lit (.lit (.lit (.all))))) (.lit (.lit (.lit (.fork (.all) (.all)))))) (.fork (.lit (.lit (.lit (.lit (.all))))) (.lit (.lit (.lit (.fork (.all) (.all))))))) (.fork (.fork (.fork (.lit (.lit (.lit (.lit (.all))))) (.lit (.lit (.lit (.fork (.all) (.all)))))) (.fork (.lit (.lit (.lit (.lit (.all))))) (.lit (.lit (.lit (.fork (.all) (.all))))))) (.fork (.fork (.fork (.lit (.lit (.lit (.lit (.all))))) (.lit (.lit (.lit (.fork (.all) (.all)))))) (.fork (.lit (.lit (.lit (.lit (.all))))) (.lit (.lit (.lit (.fork (.all) (.all))))))) (.fork (.fork (.fork (.lit (.lit (.lit (.lit (.all))))) (.lit (.lit (.lit (.fork (.all) (.all)))))) (.fork (.lit (.lit (.lit (.lit (.all))))) (.lit (.lit (.lit (.fork (.all) (.all))))))) (.fork (.fork (.lit (.lit (.lit (.lit (.all))))) (.lit (.lit (.lit (.fork (.all) (.all)))))) (.fork (.lit (.lit (.lit (.lit (.all))))) (.lit (.lit (.lit (.fork (.all) (.all)))))))))))) (.all)
noncomputable def valid1_t (c : C) (i : Int) : Tree Stop :=
   .node (decide (i < 6))
 (.node (i == 0)
  (.req (decide (0 ≤ i)) (.node (IntKind.i64.wrap ↑(BitVec.ofInt 64 (c.has.fdiv (2 ^ min i.toNat 64)) &&& BitVec.ofInt 64 1).toNat == 0)
    (.node (decide (c.x < 0))
     (.leaf (Stop.done (SV.bool false)))
     (.node (decide (c.x > 0))
      (.leaf (Stop.done (SV.bool false)))
      (.leaf (Stop.at (loopOf Tryd.prog 9 0) 64 (slotsS 64 [(1, SV.ptr 0 0), (35, I64 (IntKind.i64.wrap (i + 1)))]) [some (Box.cells [I64 c.code, I64 c.has, I64 c.x, I64 c.y, I64 c.z, I64 c.e, I64 c.f, I64 c.s])]))))
    (.node (decide (c.x < lo c.code i))
     (.leaf (Stop.done (SV.bool false)))
     (.node (decide (c.x > hi c.code i))
      (.leaf (Stop.done (SV.bool false)))
      (.leaf (Stop.at (loopOf Tryd.prog 9 0) 64 (slotsS 64 [(1, SV.ptr 0 0), (35, I64 (IntKind.i64.wrap (i + 1)))]) [some (Box.cells [I64 c.code, I64 c.has, I64 c.x, I64 c.y, I64 c.z, I64 c.e, I64 c.f, I64 c.s])]))))))
  (.node (i == 1)
   (.req (decide (0 ≤ i)) (.node (IntKind.i64.wrap ↑(BitVec.ofInt 64 (c.has.fdiv (2 ^ min i.toNat 64)) &&& BitVec.ofInt 64 1).toNat == 0)
     (.node (decide (c.y < 0))
      (.leaf (Stop.done (SV.bool false)))
      (.node (decide (c.y > 0))
       (.leaf (Stop.done (SV.bool false)))
       (.leaf (Stop.at (loopOf Tryd.prog 9 0) 64 (slotsS 64 [(1, SV.ptr 0 0), (35, I64 (IntKind.i64.wrap (i + 1)))]) [some (Box.cells [I64 c.code, I64 c.has, I64 c.x, I64 c.y, I64 c.z, I64 c.e, I64 c.f, I64 c.s])]))))
     (.node (decide (c.y < lo c.code i))
      (.leaf (Stop.done (SV.bool false)))
      (.node (decide (c.y > hi c.code i))
       (.leaf (Stop.done (SV.bool false)))
       (.leaf (Stop.at (loopOf Tryd.prog 9 0) 64 (slotsS 64 [(1, SV.ptr 0 0), (35, I64 (IntKind.i64.wrap (i + 1)))]) [some (Box.cells [I64 c.code, I64 c.has, I64 c.x, I64 c.y, I64 c.z, I64 c.e, I64 c.f, I64 c.s])]))))))
   (.node (i == 2)
    (.req (decide (0 ≤ i)) (.node (IntKind.i64.wrap ↑(BitVec.ofInt 64 (c.has.fdiv (2 ^ min i.toNat 64)) &&& BitVec.ofInt 64 1).toNat == 0)
      (.node (decide (c.z < 0))
       (.leaf (Stop.done (SV.bool false)))
       (.node (decide (c.z > 0))
        (.leaf (Stop.done (SV.bool false)))
        (.leaf (Stop.at (loopOf Tryd.prog 9 0) 64 (slotsS 64 [(1, SV.ptr 0 0), (35, I64 (IntKind.i64.wrap (i + 1)))]) [some (Box.cells [I64 c.code, I64 c.has, I64 c.x, I64 c.y, I64 c.z, I64 c.e, I64 c.f, I64 c.s])]))))
      (.node (decide (c.z < lo c.code i))
       (.leaf (Stop.done (SV.bool false)))
       (.node (decide (c.z > hi c.code i))
        (.leaf (Stop.done (SV.bool false)))
        (.leaf (Stop.at (loopOf Tryd.prog 9 0) 64 (slotsS 64 [(1, SV.ptr 0 0), (35, I64 (IntKind.i64.wrap (i + 1)))]) [some (Box.cells [I64 c.code, I64 c.has, I64 c.x, I64 c.y, I64 c.z, I64 c.e, I64 c.f, I64 c.s])]))))))
    (.node (i == 3)
     (.req (decide (0 ≤ i)) (.node (IntKind.i64.wrap ↑(BitVec.ofInt 64 (c.has.fdiv (2 ^ min i.toNat 64)) &&& BitVec.ofInt 64 1).toNat == 0)
       (.node (decide (c.e < 0))
        (.leaf (Stop.done (SV.bool false)))
        (.node (decide (c.e > 0))
         (.leaf (Stop.done (SV.bool false)))
         (.leaf (Stop.at (loopOf Tryd.prog 9 0) 64 (slotsS 64 [(1, SV.ptr 0 0), (35, I64 (IntKind.i64.wrap (i + 1)))]) [some (Box.cells [I64 c.code, I64 c.has, I64 c.x, I64 c.y, I64 c.z, I64 c.e, I64 c.f, I64 c.s])]))))
       (.node (decide (c.e < lo c.code i))
        (.leaf (Stop.done (SV.bool false)))
        (.node (decide (c.e > hi c.code i))
         (.leaf (Stop.done (SV.bool false)))
         (.leaf (Stop.at (loopOf Tryd.prog 9 0) 64 (slotsS 64 [(1, SV.ptr 0 0), (35, I64 (IntKind.i64.wrap (i + 1)))]) [some (Box.cells [I64 c.code, I64 c.has, I64 c.x, I64 c.y, I64 c.z, I64 c.e, I64 c.f, I64 c.s])]))))))
     (.node (i == 4)
      (.req (decide (0 ≤ i)) (.node (IntKind.i64.wrap ↑(BitVec.ofInt 64 (c.has.fdiv (2 ^ min i.toNat 64)) &&& BitVec.ofInt 64 1).toNat == 0)
        (.node (decide (c.f < 0))
         (.leaf (Stop.done (SV.bool false)))
         (.node (decide (c.f > 0))
          (.leaf (Stop.done (SV.bool false)))
          (.leaf (Stop.at (loopOf Tryd.prog 9 0) 64 (slotsS 64 [(1, SV.ptr 0 0), (35, I64 (IntKind.i64.wrap (i + 1)))]) [some (Box.cells [I64 c.code, I64 c.has, I64 c.x, I64 c.y, I64 c.z, I64 c.e, I64 c.f, I64 c.s])]))))
        (.node (decide (c.f < lo c.code i))
         (.leaf (Stop.done (SV.bool false)))
         (.node (decide (c.f > hi c.code i))
          (.leaf (Stop.done (SV.bool false)))
          (.leaf (Stop.at (loopOf Tryd.prog 9 0) 64 (slotsS 64 [(1, SV.ptr 0 0), (35, I64 (IntKind.i64.wrap (i + 1)))]) [some (Box.cells [I64 c.code, I64 c.has, I64 c.x, I64 c.y, I64 c.z, I64 c.e, I64 c.f, I64 c.s])]))))))
      (.req (decide (0 ≤ i)) (.node (IntKind.i64.wrap ↑(BitVec.ofInt 64 (c.has.fdiv (2 ^ min i.toNat 64)) &&& BitVec.ofInt 64 1).toNat == 0)
        (.node (decide (c.s < 0))
         (.leaf (Stop.done (SV.bool false)))
         (.node (decide (c.s > 0))
          (.leaf (Stop.done (SV.bool false)))
          (.leaf (Stop.at (loopOf Tryd.prog 9 0) 64 (slotsS 64 [(1, SV.ptr 0 0), (35, I64 (IntKind.i64.wrap (i + 1)))]) [some (Box.cells [I64 c.code, I64 c.has, I64 c.x, I64 c.y, I64 c.z, I64 c.e, I64 c.f, I64 c.s])]))))
        (.node (decide (c.s < lo c.code i))
         (.leaf (Stop.done (SV.bool false)))
         (.node (decide (c.s > hi c.code i))
          (.leaf (Stop.done (SV.bool false)))
          (.leaf (Stop.at (loopOf Tryd.prog 9 0) 64 (slotsS 64 [(1, SV.ptr 0 0), (35, I64 (IntKind.i64.wrap (i + 1)))]) [some (Box.cells [I64 c.code, I64 c.has, I64 c.x, I64 c.y, I64 c.z, I64 c.e, I64 c.f, I64 c.s])])))))))))))
 (.leaf (Stop.done (SV.bool true)))
theorem valid1 (c : C) (i : Int) : segR (Env.of Tryd.prog (sumOf [fWords, fSpan, fField])) 1000 (fnOf Tryd.prog 9) .unit (keepS 64 [1, 35]) (loopOf Tryd.prog 9 0) valid1_p (slotsS 64 [(1, .ptr 0 0), (35, I64 i)]) [some (.cells c.cells)] = valid1_t c i := by kernel_rfl
def fmt0_p : Plan := .fork (.all) (.all)
noncomputable def fmt0_t (n : Int) : Tree Stop :=
   .node (decide (n < 0))
 (.req (true) (.req (true) (.leaf (Stop.at (loopOf Tryd.prog 25 0) 58 (slotsS 58 [(0, I64 n), (3, SV.int IntKind.u64 (IntKind.u64.wrap ((IntKind.u64.wrap (0 - IntKind.u64.wrap n)).tdiv 10))), (4, SV.arr 0 0 1), (5, SV.undef), (6, SV.undef)]) [some (Box.cells [SV.int IntKind.u8 (IntKind.u8.wrap (IntKind.u64.wrap (48 + (IntKind.u64.wrap (0 - IntKind.u64.wrap n)).tmod 10)))])]))))
 (.req (true) (.req (true) (.leaf (Stop.at (loopOf Tryd.prog 25 0) 58 (slotsS 58 [(0, I64 n), (3, SV.int IntKind.u64 (IntKind.u64.wrap ((IntKind.u64.wrap n).tdiv 10))), (4, SV.arr 0 0 1), (5, SV.undef), (6, SV.undef)]) [some (Box.cells [SV.int IntKind.u8 (IntKind.u8.wrap (IntKind.u64.wrap (48 + (IntKind.u64.wrap n).tmod 10)))])]))))
theorem fmt0 (n : Int) : segR (Env.of Tryd.prog (sumOf [])) 1000 (fnOf Tryd.prog 25) .unit (keepS 58 [0, 3, 4, 5, 6]) (codeS Tryd.prog 25) fmt0_p (startS Tryd.prog 25 [I64 n]) [] = fmt0_t n := by kernel_rfl
def fmt1a_p : Plan := .fork (.lit (.all)) (.fork (.lit (.all)) (.all))
noncomputable def fmt1a_t (n u d : Int) : Tree Stop :=
   .node (decide (u > 0))
 (.req (true) (.req (decide (([d].length + [IntKind.u8.wrap (IntKind.u64.wrap (48 + u.tmod 10))].length) * 1 ≤ 140737488355328)) (.req (true) (.leaf (Stop.at (loopOf Tryd.prog 25 0) 58 (slotsS 58 [(0, I64 n), (3, SV.int IntKind.u64 (IntKind.u64.wrap (u.tdiv 10))), (4, SV.row 0), (5, SV.undef), (6, SV.undef)]) [some (Box.rows (Ty.int IntKind.u8) ([d] ++ [IntKind.u8.wrap (IntKind.u64.wrap (48 + u.tmod 10))]))])))))
 (.node (decide (n < 0))
  (.req (decide (([d].length + 1) * 1 ≤ 140737488355328)) (.leaf (Stop.at (loopOf Tryd.prog 25 1) 58 (slotsS 58 [(0, I64 n), (3, SV.int IntKind.u64 u), (4, SV.row 0), (5, I64 0), (6, I64 (IntKind.i64.wrap (↑([d] ++ [45]).length - 1)))]) [some (Box.rows (Ty.int IntKind.u8) ([d] ++ [45]))])))
  (.leaf (Stop.at (loopOf Tryd.prog 25 1) 58 (slotsS 58 [(0, I64 n), (3, SV.int IntKind.u64 u), (4, SV.arr 0 0 1), (5, I64 0), (6, I64 0)]) [some (Box.cells [SV.int IntKind.u8 d])])))
theorem fmt1a (n u d : Int) : segR (Env.of Tryd.prog (sumOf [])) 1000 (fnOf Tryd.prog 25) .unit (keepS 58 [0, 3, 4, 5, 6]) (loopOf Tryd.prog 25 0) fmt1a_p (slotsS 58 [(0, I64 n), (3, .int .u64 u), (4, .arr 0 0 1), (5, .undef), (6, .undef)]) [some (.cells [.int .u8 d])] = fmt1a_t n u d := by kernel_rfl
def fmt1_p : Plan := .fork (.all) (.fork (.all) (.all))
noncomputable def fmt1_t (n u : Int) (l : List Int) : Tree Stop :=
   .node (decide (u > 0))
 (.req (true) (.req (decide ((l.length + [IntKind.u8.wrap (IntKind.u64.wrap (48 + u.tmod 10))].length) * 1 ≤ 140737488355328)) (.req (true) (.leaf (Stop.at (loopOf Tryd.prog 25 0) 58 (slotsS 58 [(0, I64 n), (3, SV.int IntKind.u64 (IntKind.u64.wrap (u.tdiv 10))), (4, SV.row 0), (5, SV.undef), (6, SV.undef)]) [some (Box.rows (Ty.int IntKind.u8) (l ++ [IntKind.u8.wrap (IntKind.u64.wrap (48 + u.tmod 10))]))])))))
 (.node (decide (n < 0))
  (.req (decide ((l.length + 1) * 1 ≤ 140737488355328)) (.leaf (Stop.at (loopOf Tryd.prog 25 1) 58 (slotsS 58 [(0, I64 n), (3, SV.int IntKind.u64 u), (4, SV.row 0), (5, I64 0), (6, I64 (IntKind.i64.wrap (↑(l ++ [45]).length - 1)))]) [some (Box.rows (Ty.int IntKind.u8) (l ++ [45]))])))
  (.leaf (Stop.at (loopOf Tryd.prog 25 1) 58 (slotsS 58 [(0, I64 n), (3, SV.int IntKind.u64 u), (4, SV.row 0), (5, I64 0), (6, I64 (IntKind.i64.wrap (↑l.length - 1)))]) [some (Box.rows (Ty.int IntKind.u8) l)])))
theorem fmt1 (n u : Int) (l : List Int) : segR (Env.of Tryd.prog (sumOf [])) 1000 (fnOf Tryd.prog 25) .unit (keepS 58 [0, 3, 4, 5, 6]) (loopOf Tryd.prog 25 0) fmt1_p (slotsS 58 [(0, I64 n), (3, .int .u64 u), (4, .row 0), (5, .undef), (6, .undef)]) [some (.rows (.int .u8) l)] = fmt1_t n u l := by kernel_rfl
def fmt2_p : Plan := .fork (.all) (.all)
noncomputable def fmt2_t (n u : Int) (l : List Int) (i k : Int) : Tree Stop :=
   .node (decide (i < k))
 (.req (decide (0 ≤ k) && decide (k < ↑l.length)) (.req (decide (k.toNat < l.length)) (.req (decide (0 ≤ i) && decide (i < ↑l.length)) (.req (decide (i.toNat < l.length)) (.req (decide (0 ≤ i) && decide (i < ↑l.length)) (.req (decide (i.toNat < l.length)) (.req (decide (0 ≤ k) && decide (k < ↑(l.set i.toNat (l.getD k.toNat 0)).length)) (.req (decide (k.toNat < (l.set i.toNat (l.getD k.toNat 0)).length)) (.leaf (Stop.at (loopOf Tryd.prog 25 1) 58 (slotsS 58 [(0, I64 n), (3, SV.int IntKind.u64 u), (4, SV.row 0), (5, I64 (IntKind.i64.wrap (i + 1))), (6, I64 (IntKind.i64.wrap (k - 1)))]) [some (Box.rows (Ty.int IntKind.u8) ((l.set i.toNat (l.getD k.toNat 0)).set k.toNat (l.getD i.toNat 0)))]))))))))))
 (.leaf (Stop.done (SV.str (List.map (fun n => UInt8.ofNat (Int.toNat n)) l))))
theorem fmt2 (n u : Int) (l : List Int) (i k : Int) : segR (Env.of Tryd.prog (sumOf [])) 1000 (fnOf Tryd.prog 25) .unit (keepS 58 [0, 3, 4, 5, 6]) (loopOf Tryd.prog 25 1) fmt2_p (slotsS 58 [(0, I64 n), (3, .int .u64 u), (4, .row 0), (5, I64 i), (6, I64 k)]) [some (.rows (.int .u8) l)] = fmt2_t n u l i k := by kernel_rfl
def fmt2a_p : Plan := .lit (.all)
noncomputable def fmt2a_t (n u d : Int) : Tree Stop :=
   .leaf (Stop.done (SV.str (List.map (fun n => UInt8.ofNat (Int.toNat n)) [d])))
theorem fmt2a (n u d : Int) : segR (Env.of Tryd.prog (sumOf [])) 1000 (fnOf Tryd.prog 25) .unit (keepS 58 [0, 3, 4, 5, 6]) (loopOf Tryd.prog 25 1) fmt2a_p (slotsS 58 [(0, I64 n), (3, .int .u64 u), (4, .arr 0 0 1), (5, I64 0), (6, I64 0)]) [some (.cells [.int .u8 d])] = fmt2a_t n u d := by kernel_rfl
def fmtR0_p : Plan := .fork (.all) (.all)
noncomputable def fmtR0_t (n : Int) : Tree Stop :=
   .node (decide (n < 0))
 (.leaf (Stop.at (loopOf Tryd.prog 38 0) 26 (slotsS 26 [(0, I64 n), (3, SV.str []), (4, SV.int IntKind.u64 (IntKind.u64.wrap (0 - IntKind.u64.wrap n))), (5, SV.bool true)]) []))
 (.leaf (Stop.at (loopOf Tryd.prog 38 0) 26 (slotsS 26 [(0, I64 n), (3, SV.str []), (4, SV.int IntKind.u64 (IntKind.u64.wrap n)), (5, SV.bool true)]) []))
theorem fmtR0 (n : Int) : segR (Env.of Tryd.prog (sumOf [])) 1000 (fnOf Tryd.prog 38) .unit (keepS 26 [0, 3, 4, 5]) (codeS Tryd.prog 38) fmtR0_p (startS Tryd.prog 38 [I64 n]) [] = fmtR0_t n := by kernel_rfl
def fmtR1_p : Plan := .fork (.all) (.fork (.all) (.all))
noncomputable def fmtR1_t (n : Int) (s : List UInt8) (u : Int) (b : Bool) : Tree Stop :=
   .node (b)
 (.req (true) (.req (decide ((((List.map (fun n => UInt8.ofNat (Int.toNat n)) [IntKind.u8.wrap (IntKind.u64.wrap (48 + u.tmod 10))]).length + s.length : Nat) : Int) ≤ (9223372036854775807 : Int))) (.req (true) (.leaf (Stop.at (loopOf Tryd.prog 38 0) 26 (slotsS 26 [(0, I64 n), (3, SV.str (List.map (fun n => UInt8.ofNat (Int.toNat n)) [IntKind.u8.wrap (IntKind.u64.wrap (48 + u.tmod 10))] ++ s)), (4, SV.int IntKind.u64 (IntKind.u64.wrap (u.tdiv 10))), (5, SV.bool (decide (IntKind.u64.wrap (u.tdiv 10) > 0)))]) [])))))
 (.node (decide (n < 0))
  (.req (decide (((1 + s.length : Nat) : Int) ≤ (9223372036854775807 : Int))) (.leaf (Stop.done (SV.str ([45] ++ s)))))
  (.leaf (Stop.done (SV.str s))))
theorem fmtR1 (n : Int) (s : List UInt8) (u : Int) (b : Bool) : segR (Env.of Tryd.prog (sumOf [])) 1000 (fnOf Tryd.prog 38) .unit (keepS 26 [0, 3, 4, 5]) (loopOf Tryd.prog 38 0) fmtR1_p (slotsS 26 [(0, I64 n), (3, .str s), (4, .int .u64 u), (5, .bool b)]) [] = fmtR1_t n s u b := by kernel_rfl
end Go.Proofs.YtkmohnciiincmaaDoor
set_option linter.unusedSimpArgs false
set_option linter.unusedVariables false
set_option maxRecDepth 100000
namespace Go.Proofs.YtkmohnciiincmaaDoor
open Go.Sx

/-- Bit i of a number, as the code reads it. -/
def bit (h i : Int) : Int := IntKind.i64.wrap ↑(BitVec.ofInt 64 (h.fdiv (2 ^ min i.toNat 64)) &&& BitVec.ofInt 64 1).toNat
def andNot (h m : Int) : Int := IntKind.i64.wrap ↑(BitVec.ofInt 64 h &&& ~~~BitVec.ofInt 64 m).toNat

theorem bit_01 (h i : Int) : bit h i = 0 ∨ bit h i = 1 := by
  unfold bit
  generalize BitVec.ofInt 64 (h.fdiv (2 ^ min i.toNat 64)) = x
  have e : (x &&& BitVec.ofInt 64 1).toNat = x.toNat % 2 := by
    rw [BitVec.toNat_and]
    exact Nat.and_one_is_mod _
  rw [e]
  have h2 : x.toNat % 2 = 0 ∨ x.toNat % 2 = 1 := by omega
  rcases h2 with h2 | h2 <;> rw [h2]
  · exact .inl rfl
  · exact .inr rfl

theorem u64_small {i : Int} (h : 0 ≤ i ∧ i ≤ 100) : IntKind.u64.wrap i = i := by
  have h2 : IntKind.wrap .u64 i = if false && decide (i % 18446744073709551616 ≥ 9223372036854775808) then i % 18446744073709551616 - 18446744073709551616 else i % 18446744073709551616 := rfl
  rw [h2]
  simp only [Bool.false_and, Bool.false_eq_true, if_false]
  omega

/-- Is word i as it must be? -/
def okW (c : C) (i : Int) : Bool := if bit c.has i = 0 then c.num i == 0 else inR (c.num i) (lo c.code i) (hi c.code i)
/-- .. and all the words behind it, so many? -/
def rest (c : C) : Nat → Bool
  | 0 => true
  | n + 1 => okW c (5 - n) && rest c n
theorem rest_step (c : C) {i : Int} (h : 0 ≤ i) (h6 : i < 6) : rest c (6 - i).toNat = (okW c i && rest c (6 - (i + 1)).toNat) := by
  obtain ⟨n, hn⟩ : ∃ n : Nat, (6 - i).toNat = n + 1 := ⟨(5 - i).toNat, by omega⟩
  rw [hn, show (6 - (i + 1)).toNat = n by omega, rest, show (5 : Int) - n = i by omega]

def C.pre (c : C) : Bool := okC c.code && (andNot c.has (may c.code) == 0 && !(allW c.code && !(c.has == may c.code)))
def C.preR (c : C) : Bool := okC c.code && (decide (0 ≤ c.has) && (andNot c.has (may c.code) == 0 && (!(may c.code == 32) || c.has == 32)))
def C.valid (c : C) : Bool := c.pre && rest c 6
def C.validR (c : C) : Bool := c.preR && rest c 6

noncomputable def stV (c : C) (i : Int) : Stop := Stop.at (loopOf Tryd.prog 9 0) 64 (slotsS 64 [(1, SV.ptr 0 0), (35, I64 i)]) [some (Box.cells c.cells)]
theorem inR_false {n l h : Int} : inR n l h = false ↔ n < l ∨ h < n := by
  rw [← Bool.not_eq_true, inR, Bool.and_eq_true, decide_eq_true_eq, decide_eq_true_eq]; omega
theorem inR_true {n l h : Int} : inR n l h = true ↔ l ≤ n ∧ n ≤ h := by
  rw [inR, Bool.and_eq_true, decide_eq_true_eq, decide_eq_true_eq]

theorem num0 (c : C) : c.num 0 = c.x := rfl
theorem num1 (c : C) : c.num 1 = c.y := rfl
theorem num2 (c : C) : c.num 2 = c.z := rfl
theorem num3 (c : C) : c.num 3 = c.e := rfl
theorem num4 (c : C) : c.num 4 = c.f := rfl
theorem num5 (c : C) : c.num 5 = c.s := rfl

theorem okW_ok {c : C} {i n : Int} (hn : c.num i = n) : (okW c i = true ↔ (bit c.has i = 0 ∧ n = 0) ∨ (bit c.has i ≠ 0 ∧ lo c.code i ≤ n ∧ n ≤ hi c.code i)) := by
  unfold okW
  rw [hn]
  by_cases h : bit c.has i = 0
  · simp [h]
  · simp [h, inR_true]

theorem valid_leaves {c : C} {i : Int} (h0 : 0 ≤ i) (Q : Stop → Prop) (q0 : 6 ≤ i → Q (.done (.bool true))) (q1 : i < 6 → ¬ okW c i = true → Q (.done (.bool false))) (q2 : i < 6 → okW c i = true → Q (stV c (i + 1))) : (valid1_t c i).holds Q := by
  have wi : i < 6 → IntKind.i64.wrap (i + 1) = i + 1 := fun h => wrap64 (by omega) (by omega)
  have eb : IntKind.i64.wrap ↑(BitVec.ofInt 64 (c.has.fdiv (2 ^ min i.toNat 64)) &&& BitVec.ofInt 64 1).toNat = bit c.has i := rfl
  unfold valid1_t
  rw [eb]
  unfold stV C.cells at q2
  have key : ∀ n, c.num i = n → i < 6 → (Tree.node (bit c.has i == 0)
      (.node (decide (n < 0)) (.leaf (Stop.done (SV.bool false))) (.node (decide (n > 0)) (.leaf (Stop.done (SV.bool false))) (.leaf (Stop.at (loopOf Tryd.prog 9 0) 64 (slotsS 64 [(1, SV.ptr 0 0), (35, I64 (IntKind.i64.wrap (i + 1)))]) [some (Box.cells [I64 c.code, I64 c.has, I64 c.x, I64 c.y, I64 c.z, I64 c.e, I64 c.f, I64 c.s])]))))
      (.node (decide (n < lo c.code i)) (.leaf (Stop.done (SV.bool false))) (.node (decide (n > hi c.code i)) (.leaf (Stop.done (SV.bool false))) (.leaf (Stop.at (loopOf Tryd.prog 9 0) 64 (slotsS 64 [(1, SV.ptr 0 0), (35, I64 (IntKind.i64.wrap (i + 1)))]) [some (Box.cells [I64 c.code, I64 c.has, I64 c.x, I64 c.y, I64 c.z, I64 c.e, I64 c.f, I64 c.s])]))))).holds Q := by
    intro n hn h6
    have ok := okW_ok (c := c) hn
    rw [wi h6]
    simp only [Tree.holds, beq_iff_eq, beq_eq_false_iff_ne, decide_eq_true_eq, decide_eq_false_iff_not]
    repeat' (first | apply And.intro | intro _)
    all_goals first
      | (refine q1 h6 ?_; rw [ok]; omega)
      | (refine q2 h6 ?_; rw [ok]; omega)
  simp only [Tree.holds, beq_iff_eq, beq_eq_false_iff_ne, decide_eq_true_eq, decide_eq_false_iff_not] at key ⊢
  refine ⟨fun h6 => ⟨?_, fun n0 => ⟨?_, fun n1 => ⟨?_, fun n2 => ⟨?_, fun n3 => ⟨?_, fun n4 => ?_⟩⟩⟩⟩⟩, fun h => q0 (by omega)⟩
  · rintro rfl; exact ⟨h0, key _ (num0 c) h6⟩
  · rintro rfl; exact ⟨h0, key _ (num1 c) h6⟩
  · rintro rfl; exact ⟨h0, key _ (num2 c) h6⟩
  · rintro rfl; exact ⟨h0, key _ (num3 c) h6⟩
  · rintro rfl; exact ⟨h0, key _ (num4 c) h6⟩
  · obtain rfl : i = 5 := by omega
    exact ⟨h0, key _ (num5 c) h6⟩

theorem fsV : allOk Tryd.prog [fWords, fSpan, fField] := ⟨o_words, o_span, o_field, trivial⟩


theorem valid_loop (c : C) (v : Bool) : ∀ i : Int, (0 ≤ i ∧ i ≤ 6 ∧ v = rest c (6 - i).toNat) → RunsR Tryd.prog (fnOf Tryd.prog 9) (.bool v) (loopOf Tryd.prog 9 0) (slotsS 64 [(1, .ptr 0 0), (35, I64 i)]) [some (.cells c.cells)] := by
  refine runsR_of (hK fsV) (n := 1000) (hint := .unit) rfl (fun i : Int => 0 ≤ i ∧ i ≤ 6 ∧ v = rest c (6 - i).toNat) (fun i => (6 - i).toNat) (keepS 64 [1, 35]) (fun _ => loopOf Tryd.prog 9 0) (fun i => slotsS 64 [(1, .ptr 0 0), (35, I64 i)]) (fun _ => [some (.cells c.cells)]) (fun _ => valid1_p) fun i hi => ?_
  obtain ⟨h0, h6, hv⟩ := hi
  rw [valid1]
  refine valid_leaves h0 _ (fun h => ?_) (fun h hw => ?_) (fun h hw => ?_)
  · show SV.bool true = SV.bool v
    rw [hv, show (6 - i).toNat = 0 by omega]; rfl
  · show SV.bool false = SV.bool v
    rw [hv, rest_step c h0 h]
    simp [hw]
  · refine ⟨slotsS_len _ _, .inl ⟨i + 1, ⟨by omega, by omega, ?_⟩, by omega, rfl, rfl, rfl⟩⟩
    rw [hv, rest_step c h0 h, hw, Bool.true_and]

theorem s_valid (c : C) : SCall Tryd.prog 9 [c.sv] (.bool c.valid) := by
  refine scallR_loops rfl rfl (by kernel_rfl) (runsR_seg (hK fsV) (n := 1000) (hint := .unit) (keep := keepS 64 [1, 35]) (p := valid0_p) (boxes := []) rfl ?_)
  have e := valid0 c
  unfold startS codeS at e
  erw [e]
  unfold valid0_t
  have ea : IntKind.i64.wrap ↑(BitVec.ofInt 64 c.has &&& ~~~BitVec.ofInt 64 (may c.code)).toNat = andNot c.has (may c.code) := rfl
  rw [ea]
  simp only [Tree.holds, Bool.not_eq_true', Bool.not_eq_false', bne_iff_ne, bne_eq_false_iff_eq]
  refine ⟨fun h => ?_, fun h => ⟨fun h2 => ?_, fun h2 => ⟨fun h3 => ⟨fun h4 => ?_, fun h4 => ?_⟩, fun h3 => ?_⟩⟩⟩
  · simp [C.valid, C.pre, h]
  · simp [C.valid, C.pre, h, h2]
  · simp [C.valid, C.pre, h, h2, h3, h4]
  · exact ⟨slotsS_len _ _, valid_loop c _ 0 ⟨by omega, by omega, by
      have : c.pre = true := by
        simp only [C.pre, h, h3, h2]
        rw [show (c.has == may c.code) = true by simpa using h4]; rfl
      rw [C.valid, this, Bool.true_and]; rfl⟩⟩
  · exact ⟨slotsS_len _ _, valid_loop c _ 0 ⟨by omega, by omega, by simp [C.valid, C.pre, h, h2, h3]⟩⟩

/-! ### The document's check -/

theorem okC_codes (k : Int) : okC k = true ↔ k ∈ codes := by
  have : okC k = true ↔ (k = 0 ∨ (k = 1 ∨ (oneS k ∨ none0 k))) := by simp [okC]
  rw [this]
  unfold oneS none0 codes
  simp only [List.mem_cons, List.not_mem_nil, or_false]
  omega

theorem rangedB_eq (k n : Int) {i : Int} (h0 : 0 ≤ i) (h6 : i < 6) : rangedB k i n = inR n (lo k i) (hi k i) := by
  unfold rangedB lo hi
  have : i = 0 ∨ i = 1 ∨ i = 2 ∨ i = 3 ∨ i = 4 ∨ i = 5 := by omega
  rcases this with rfl | rfl | rfl | rfl | rfl | rfl <;> simp <;> (repeat' split) <;> rfl

theorem nums_get (c : C) {i : Int} (h0 : 0 ≤ i) (h6 : i < 6) : [c.x, c.y, c.z, c.e, c.f, c.s].getD i.toNat (Ty.dflt (Ty.int IntKind.i64)) = c.num i := by
  have : i = 0 ∨ i = 1 ∨ i = 2 ∨ i = 3 ∨ i = 4 ∨ i = 5 := by omega
  rcases this with rfl | rfl | rfl | rfl | rfl | rfl <;> rfl

theorem wrap_zero {x : BitVec 64} (h : IntKind.i64.wrap (x.toNat : Int) = 0) : x = 0#64 := by
  have hx := x.isLt
  have h2 : IntKind.wrap .i64 (x.toNat : Int) = if true && decide ((x.toNat : Int) % 18446744073709551616 ≥ 9223372036854775808) then (x.toNat : Int) % 18446744073709551616 - 18446744073709551616 else (x.toNat : Int) % 18446744073709551616 := rfl
  rw [h2] at h
  simp only [Bool.true_and, decide_eq_true_eq] at h
  have : x.toNat = 0 := by split at h <;> omega
  exact BitVec.eq_of_toNat_eq (by simpa using this)

theorem msb_of {h : Int} (h1 : -9223372036854775808 ≤ h) (h2 : h ≤ 9223372036854775807) : (BitVec.ofInt 64 h).msb = decide (h < 0) := by
  rw [BitVec.msb_eq_toInt, BitVec.toInt_ofInt]
  congr 1
  rw [Int.bmod_eq_of_le (by omega) (by omega)]

theorem andNot_zero {h m : Int} (h1 : -9223372036854775808 ≤ h) (h2 : h ≤ 9223372036854775807) (hm : 0 ≤ m) (hm2 : m ≤ 100) (ha : andNot h m = 0) : 0 ≤ h ∧ (m = 0 → h = 0) := by
  have hx : BitVec.ofInt 64 h &&& ~~~BitVec.ofInt 64 m = 0#64 := wrap_zero ha
  constructor
  · have hb : (BitVec.ofInt 64 h &&& ~~~BitVec.ofInt 64 m).msb = false := by rw [hx]; rfl
    rw [BitVec.msb_and, BitVec.msb_not, msb_of h1 h2, msb_of (by omega) (by omega)] at hb
    have : ¬ m < 0 := by omega
    simpa [this] using hb
  · rintro rfl
    have e : (~~~BitVec.ofInt 64 0) = BitVec.allOnes 64 := by rfl
    rw [e, BitVec.and_allOnes] at hx
    have h3 : (BitVec.ofInt 64 h).toInt = 0 := by rw [hx]; rfl
    rw [BitVec.toInt_ofInt, Int.bmod_eq_of_le (by omega) (by omega)] at h3
    exact h3

theorem valid_eq {c : C} (h1 : -9223372036854775808 ≤ c.has) (h2 : c.has ≤ 9223372036854775807) : c.valid = c.validR := by
  have key : c.pre = c.preR := by
    rw [Bool.eq_iff_iff]
    have hm : may c.code = 0 ∨ may c.code = 23 ∨ may c.code = 31 ∨ may c.code = 32 := by
      unfold may; (repeat' split) <;> simp
    have hmay := andNot_zero h1 h2 (m := may c.code) (by omega) (by omega)
    simp only [C.pre, C.preR, Bool.and_eq_true, Bool.or_eq_true, Bool.not_eq_true', beq_iff_eq, beq_eq_false_iff_ne, decide_eq_true_eq, Bool.and_eq_false_iff, Bool.not_eq_false']
    have ha : allW c.code = true ↔ (oneS c.code ∨ none0 c.code) := by simp [allW]
    have hs : may c.code = 32 ↔ oneS c.code := by
      unfold may oneS; (repeat' split) <;> omega
    have hn : none0 c.code → may c.code = 0 := by
      intro hn; unfold none0 at hn; unfold may oneS; (repeat' split) <;> omega
    constructor
    · rintro ⟨a, b, d⟩
      refine ⟨a, (hmay b).1, b, ?_⟩
      by_cases h32 : may c.code = 32
      · right
        rcases d with d | d
        · exact absurd (ha.2 (.inl (hs.1 h32))) (by rw [d]; simp)
        · rw [d, h32]
      · exact .inl h32
    · rintro ⟨a, _, b, d⟩
      refine ⟨a, b, ?_⟩
      by_cases hw : allW c.code = true
      · right
        rcases ha.1 hw with h | h
        · have := hs.2 h
          rcases d with d | d
          · exact absurd this d
          · rw [this, d]
        · rw [hn h]; exact (hmay b).2 (hn h)
      · exact .inl (by simpa using hw)
  rw [C.valid, C.validR, key]
end Go.Proofs.YtkmohnciiincmaaDoor
set_option linter.unusedSimpArgs false
set_option linter.unusedVariables false
set_option maxRecDepth 100000
namespace Go.Proofs.YtkmohnciiincmaaDoor
open Go.Sx
def fValid : Fact := factC 9 fun c => .leaf (.bool c.valid)
def fAwake : Fact := fact0 5 (.leaf (.bool true))
theorem o_valid : fValid.ok Tryd.prog := factC_ok s_valid
theorem wf64 {n : Int} (h : (Lit.int .i64 n).wf = true) : -9223372036854775808 ≤ n ∧ n ≤ 9223372036854775807 := by
  have h : (decide ((-9223372036854775808 : Int) ≤ n) && decide (n ≤ (9223372036854775807 : Int))) = true := h
  simpa using h
def C.good (c : C) : Prop := -9223372036854775808 ≤ c.has ∧ c.has ≤ 9223372036854775807
theorem s_awake : SCall Tryd.prog 5 [] (.bool true) := scall_closed mix [fField] ⟨o_field, trivial⟩ 10000 .auto (by kernel_rfl) rfl rfl
theorem o_awake : fAwake.ok Tryd.prog := fact0_ok s_awake
end Go.Proofs.YtkmohnciiincmaaDoor
set_option linter.unusedSimpArgs false
set_option linter.unusedVariables false
set_option maxRecDepth 100000
namespace Go.Proofs.YtkmohnciiincmaaDoor
open Go.Sx

/-- The size of a number. -/
def size (n : Int) : Int := if n < 0 then IntKind.u64.wrap (0 - IntKind.u64.wrap n) else IntKind.u64.wrap n
/-- Its digits, the last one first (at most so many). -/
def rd : Nat → Int → List Int
  | 0, _ => []
  | k + 1, u => (48 + u % 10) :: if 0 < u / 10 then rd k (u / 10) else []
def toB (l : List Int) : List UInt8 := List.map (fun n => UInt8.ofNat (Int.toNat n)) l
def backs (n : Int) : List Int := rd 20 (size n) ++ if n < 0 then [45] else []
def fmt (n : Int) : List UInt8 := toB (backs n).reverse

theorem u64_def (n : Int) : IntKind.u64.wrap n = n % 18446744073709551616 := by
  have h2 : IntKind.wrap .u64 n = if false && decide (n % 18446744073709551616 ≥ 9223372036854775808) then n % 18446744073709551616 - 18446744073709551616 else n % 18446744073709551616 := rfl
  rw [h2]; simp
theorem u64_id {n : Int} (h : 0 ≤ n) (h2 : n < 18446744073709551616) : IntKind.u64.wrap n = n := by rw [u64_def]; omega
theorem size_range (n : Int) : 0 ≤ size n ∧ size n < 18446744073709551616 := by
  unfold size
  split <;> rw [u64_def] <;> omega
theorem u8_id {n : Int} (h : 0 ≤ n) (h2 : n < 256) : IntKind.u8.wrap n = n := by
  have h3 : IntKind.wrap .u8 n = if false && decide (n % 256 ≥ 128) then n % 256 - 256 else n % 256 := rfl
  rw [h3]
  simp only [Bool.false_and, Bool.false_eq_true, if_false]
  omega
theorem digit {u : Int} (h : 0 ≤ u) : IntKind.u8.wrap (IntKind.u64.wrap (48 + u.tmod 10)) = 48 + u % 10 := by
  rw [Int.tmod_eq_emod_of_nonneg h, u64_id (by omega) (by omega), u8_id (by omega) (by omega)]
theorem tenth {u : Int} (h : 0 ≤ u) (h2 : u < 18446744073709551616) : IntKind.u64.wrap (u.tdiv 10) = u / 10 := by
  rw [Int.tdiv_eq_ediv_of_nonneg h, u64_id (by omega) (by omega)]

theorem rd_len : ∀ (k : Nat) (u : Int), (rd k u).length ≤ k
  | 0, _ => Nat.le_refl _
  | k + 1, u => by
    unfold rd
    have := rd_len k (u / 10)
    split <;> simp <;> omega
theorem backs_len (n : Int) : (backs n).length ≤ 21 ∧ 0 < (backs n).length := by
  have := rd_len 20 (size n)
  unfold backs
  constructor
  · split <;> simp <;> omega
  · unfold rd; simp

/-! ### The second loop: the bytes are turned round -/

structure S2 where
  u : Int
  l : List Int
  i : Int
  k : Int
def turned (E l : List Int) (i k : Int) : Prop := l.length = E.length ∧ 0 ≤ i ∧ i + k = (E.length : Int) - 1 ∧ ∀ j : Nat, j < E.length → l.getD j 0 = if (j : Int) < i ∨ k < j then E.getD (E.length - 1 - j) 0 else E.getD j 0

theorem getD_set (l : List Int) (a : Nat) (v : Int) (j : Nat) (h : a < l.length) : (l.set a v).getD j 0 = if j = a then v else l.getD j 0 := by
  rw [List.getD_eq_getElem?_getD, List.getElem?_set, List.getD_eq_getElem?_getD]
  by_cases hj : j = a
  · subst hj; simp [h]
  · rw [if_neg (Ne.symm hj), if_neg hj]

theorem turned_step {E l : List Int} {i k : Int} (h : turned E l i k) (hik : i < k) : turned E ((l.set i.toNat (l.getD k.toNat 0)).set k.toNat (l.getD i.toNat 0)) (i + 1) (k - 1) := by
  obtain ⟨h1, h2, h3, h4⟩ := h
  refine ⟨by simp [h1], by omega, by omega, fun j hj => ?_⟩
  rw [getD_set _ _ _ _ (by simp; omega), getD_set _ _ _ _ (by omega)]
  have hk := h4 k.toNat (by omega)
  have hi := h4 i.toNat (by omega)
  rw [if_neg (by omega)] at hk hi
  by_cases c1 : j = k.toNat
  · rw [if_pos c1, if_pos (by omega), hi]
    congr 1; omega
  · rw [if_neg c1]
    by_cases c2 : j = i.toNat
    · rw [if_pos c2, if_pos (by omega), hk]
      congr 1; omega
    · rw [if_neg c2, h4 j hj]
      by_cases c3 : (j : Int) < i ∨ k < j
      · rw [if_pos c3, if_pos (by omega)]
      · rw [if_neg c3, if_neg (by omega)]

theorem turned_end {E l : List Int} {i k : Int} (h : turned E l i k) (hik : k ≤ i) : l = E.reverse := by
  obtain ⟨h1, h2, h3, h4⟩ := h
  refine List.ext_getElem? fun j => ?_
  by_cases hj : j < E.length
  · have := h4 j hj
    rw [List.getD_eq_getElem?_getD, List.getElem?_eq_getElem (by omega)] at this
    rw [List.getElem?_eq_getElem (by omega), List.getElem?_reverse hj, List.getElem?_eq_getElem (by omega)]
    congr 1
    simp only [Option.getD_some] at this
    rw [this]
    by_cases c : (j : Int) < i ∨ k < j
    · rw [if_pos c, List.getD_eq_getElem?_getD, List.getElem?_eq_getElem (by omega)]; rfl
    · rw [if_neg c, List.getD_eq_getElem?_getD, List.getElem?_eq_getElem (by omega)]
      simp only [Option.getD_some]
      congr 1; omega
  · rw [List.getElem?_eq_none (by omega), List.getElem?_eq_none (by simp; omega)]

theorem fmt2_leaves {n u : Int} {l E : List Int} {i k : Int} (h : turned E l i k) (hE : E.length ≤ 21) (Q : Stop → Prop) (q1 : Q (.done (.str (toB E.reverse))))
    (q2 : ∀ l' , turned E l' (i + 1) (k - 1) → i < k → Q (Stop.at (loopOf Tryd.prog 25 1) 58 (slotsS 58 [(0, I64 n), (3, SV.int IntKind.u64 u), (4, SV.row 0), (5, I64 (i + 1)), (6, I64 (k - 1))]) [some (Box.rows (Ty.int IntKind.u8) l')])) : (fmt2_t n u l i k).holds Q := by
  obtain ⟨h1, h2, h3, h4⟩ := id h
  have hd : ∀ j : Nat, l.getD j (Ty.dflt (Ty.int IntKind.u8)) = l.getD j 0 := fun _ => rfl
  unfold fmt2_t
  have hl1 : ∀ (j : Nat) (v : Int), (List.set l j v).length = l.length := fun j v => List.length_set
  simp only [Tree.holds, decide_eq_true_eq, decide_eq_false_iff_not, Bool.and_eq_true]
  refine ⟨fun hik => ?_, fun hik => ?_⟩
  · have e := q2 _ (turned_step h hik) hik
    rw [wrap64 (by omega) (by omega), wrap64 (by omega) (by omega)]
    have hs : (List.set (α := Int) l i.toNat (l.getD k.toNat 0)).length = l.length := List.length_set
    refine ⟨⟨by omega, by omega⟩, by omega, ⟨by omega, by omega⟩, by omega, ⟨by omega, by omega⟩, by omega, ⟨by omega, ?_⟩, ?_, e⟩
    · exact hs ▸ (by omega)
    · exact hs ▸ (by omega)
  · rw [turned_end h (by omega)]; exact q1

theorem fmt2_loop (n : Int) : ∀ s : S2, turned (backs n) s.l s.i s.k → RunsR Tryd.prog (fnOf Tryd.prog 25) (.str (fmt n)) (loopOf Tryd.prog 25 1) (slotsS 58 [(0, I64 n), (3, .int .u64 s.u), (4, .row 0), (5, I64 s.i), (6, I64 s.k)]) [some (.rows (.int .u8) s.l)] := by
  refine runsR_of (hK (l := []) trivial) (n := 1000) (hint := .unit) rfl (fun s : S2 => turned (backs n) s.l s.i s.k) (fun s => (s.k - s.i + 2).toNat) (keepS 58 [0, 3, 4, 5, 6]) (fun _ => loopOf Tryd.prog 25 1) (fun s => slotsS 58 [(0, I64 n), (3, .int .u64 s.u), (4, .row 0), (5, I64 s.i), (6, I64 s.k)]) (fun s => [some (.rows (.int .u8) s.l)]) (fun _ => fmt2_p) fun s hs => ?_
  rw [fmt2]
  refine fmt2_leaves hs (backs_len n).1 _ rfl fun l' hl hik => ?_
  refine ⟨slotsS_len _ _, .inl ⟨⟨s.u, l', s.i + 1, s.k - 1⟩, hl, ?_, rfl, rfl, rfl⟩⟩
  dsimp only; omega

theorem turned_start (E : List Int) : turned E E 0 ((E.length : Int) - 1) := by
  refine ⟨rfl, by omega, by omega, fun j hj => ?_⟩
  rw [if_neg (by omega)]

/-! ### The first loop: the digits -/

structure S1 where
  u : Int
  l : List Int
  k : Nat
def more (k : Nat) (u : Int) : List Int := if 0 < u then rd k u else []
def S1.inv (n : Int) (s : S1) : Prop := 0 ≤ s.u ∧ s.u < 10 ^ s.k ∧ s.k ≤ 19 ∧ s.l ++ more s.k s.u = rd 20 (size n)

theorem more_step {k : Nat} {u : Int} (h : 0 < u) (hk : u < 10 ^ k) : ∃ k', k = k' + 1 ∧ more k u = (48 + u % 10) :: more k' (u / 10) ∧ u / 10 < 10 ^ k' := by
  cases k with
  | zero => simp at hk; omega
  | succ k =>
    refine ⟨k, rfl, ?_, ?_⟩
    · unfold more; rw [if_pos h]; rfl
    · rw [Int.pow_succ] at hk; omega
theorem pow_le19 {k : Nat} (h : k ≤ 19) : (10 : Int) ^ k ≤ 10000000000000000000 := by
  have : (10 : Int) ^ k ≤ 10 ^ 19 := by
    exact_mod_cast Nat.pow_le_pow_right (by omega) h
  omega

theorem inv_len {n : Int} {s : S1} (h : s.inv n) : s.l.length ≤ 20 := by
  have := congrArg List.length h.2.2.2
  have h2 := rd_len 20 (size n)
  rw [List.length_append] at this
  omega

theorem fmt1_loop (n : Int) : ∀ s : S1, s.inv n → 0 < s.l.length → RunsR Tryd.prog (fnOf Tryd.prog 25) (.str (fmt n)) (loopOf Tryd.prog 25 0) (slotsS 58 [(0, I64 n), (3, .int .u64 s.u), (4, .row 0), (5, .undef), (6, .undef)]) [some (.rows (.int .u8) s.l)] := by
  intro s hs hpos
  refine runsR_of (hK (l := []) trivial) (n := 1000) (hint := .unit) rfl (fun s : S1 => s.inv n ∧ 0 < s.l.length) (fun s => s.u.toNat) (keepS 58 [0, 3, 4, 5, 6]) (fun _ => loopOf Tryd.prog 25 0) (fun s => slotsS 58 [(0, I64 n), (3, .int .u64 s.u), (4, .row 0), (5, .undef), (6, .undef)]) (fun s => [some (.rows (.int .u8) s.l)]) (fun _ => fmt1_p) (fun s hs => ?_) s ⟨hs, hpos⟩
  obtain ⟨hs, hpos⟩ := hs
  have hlen := inv_len hs
  obtain ⟨u, l, k⟩ := s
  obtain ⟨h0, hk, hk19, hl⟩ := hs
  dsimp only at h0 hk hk19 hl hlen hpos ⊢
  have h19 := pow_le19 hk19
  rw [fmt1]
  unfold fmt1_t
  rw [digit h0, tenth h0 (by omega)]
  simp only [Tree.holds, decide_eq_true_eq, decide_eq_false_iff_not]
  refine ⟨fun hu => ⟨by decide, ?_, by decide, slotsS_len _ _, .inl ?_⟩, fun hu => ⟨fun hn => ⟨?_, slotsS_len _ _, .inr ?_⟩, fun hn => ⟨slotsS_len _ _, .inr ?_⟩⟩⟩
  · simp; omega
  · obtain ⟨k', rfl, hm, hk'⟩ := more_step hu hk
    refine ⟨⟨u / 10, l ++ [48 + u % 10], k'⟩, ⟨⟨by dsimp only; omega, hk', by dsimp only; omega, ?_⟩, by simp⟩, ?_, by trivial, rfl, rfl⟩
    · dsimp only; rw [← hl, hm]; simp
    · dsimp only; omega
  · simp; omega
  · have hb : l ++ [45] = backs n := by
      unfold backs; rw [if_pos hn, ← hl]; unfold more; rw [if_neg hu]; simp
    have hln : ((List.length (α := Int) (l ++ [45]) : Nat) : Int) = (l.length : Int) + 1 := by simp
    have := fmt2_loop n ⟨u, l ++ [45], 0, ((backs n).length : Int) - 1⟩ (by rw [hb]; exact turned_start _)
    rw [← hb] at this
    rw [wrap64 (by omega) (by omega)]
    exact this
  · have hb : l = backs n := by
      unfold backs; rw [if_neg hn, ← hl]; unfold more; rw [if_neg hu]; simp
    have := fmt2_loop n ⟨u, l, 0, ((backs n).length : Int) - 1⟩ (by rw [hb]; exact turned_start _)
    rw [← hb] at this
    rw [wrap64 (by omega) (by omega)]
    exact this

theorem pow19 : (10 : Int) ^ 19 = 10000000000000000000 := by decide

theorem fmt2a_runs (n u d : Int) (h : backs n = [d]) : RunsR Tryd.prog (fnOf Tryd.prog 25) (.str (fmt n)) (loopOf Tryd.prog 25 1) (slotsS 58 [(0, I64 n), (3, .int .u64 u), (4, .arr 0 0 1), (5, I64 0), (6, I64 0)]) [some (.cells [.int .u8 d])] := by
  refine runsR_seg (hK (l := []) trivial) (n := 1000) (hint := .unit) (keep := keepS 58 [0, 3, 4, 5, 6]) (p := fmt2a_p) rfl ?_
  rw [fmt2a]
  unfold fmt2a_t fmt
  rw [h]
  first | exact rfl | (simp only [Tree.holds]; exact rfl)

theorem fmt1a_runs (n u d : Int) (h0 : 0 ≤ u) (hu : u < 10 ^ 19) (h : [d] ++ more 19 u = rd 20 (size n)) : RunsR Tryd.prog (fnOf Tryd.prog 25) (.str (fmt n)) (loopOf Tryd.prog 25 0) (slotsS 58 [(0, I64 n), (3, .int .u64 u), (4, .arr 0 0 1), (5, .undef), (6, .undef)]) [some (.cells [.int .u8 d])] := by
  refine runsR_seg (hK (l := []) trivial) (n := 1000) (hint := .unit) (keep := keepS 58 [0, 3, 4, 5, 6]) (p := fmt1a_p) rfl ?_
  rw [fmt1a]
  unfold fmt1a_t
  have h19 := pow19
  rw [digit h0, tenth h0 (by omega)]
  simp only [Tree.holds, decide_eq_true_eq, decide_eq_false_iff_not, Bool.and_eq_true]
  refine ⟨fun hp => ⟨by decide, by simp, by decide, slotsS_len _ _, ?_⟩, fun hp => ⟨fun hn => ⟨by simp, slotsS_len _ _, ?_⟩, fun hn => ⟨slotsS_len _ _, ?_⟩⟩⟩
  · obtain ⟨k', hk, hm, hk'⟩ := more_step hp hu
    obtain rfl : k' = 18 := by omega
    refine fmt1_loop n ⟨u / 10, [d] ++ [48 + u % 10], 18⟩ ⟨by dsimp only; omega, hk', by dsimp only; omega, ?_⟩ (by simp)
    dsimp only; rw [← h, hm]; simp
  · have hb : [d] ++ [45] = backs n := by
      unfold backs; rw [if_pos hn, ← h]; unfold more; rw [if_neg hp]; simp
    have := fmt2_loop n ⟨u, [d] ++ [45], 0, ((backs n).length : Int) - 1⟩ (by rw [hb]; exact turned_start _)
    rw [← hb] at this
    exact this
  · exact fmt2a_runs n u d (by unfold backs; rw [if_neg hn, ← h]; unfold more; rw [if_neg hp]; simp)

theorem s_fmt (n : Int) : SCall Tryd.prog 25 [I64 n] (.str (fmt n)) := by
  refine scallR_loops rfl rfl (by kernel_rfl) (runsR_seg (hK (l := []) trivial) (n := 1000) (hint := .unit) (keep := keepS 58 [0, 3, 4, 5, 6]) (p := fmt0_p) (boxes := []) rfl ?_)
  have e := fmt0 n
  unfold startS codeS at e
  erw [e]
  unfold fmt0_t
  have hr := size_range n
  have key : ∀ u, size n = u → RunsR Tryd.prog (fnOf Tryd.prog 25) (.str (fmt n)) (loopOf Tryd.prog 25 0) (slotsS 58 [(0, I64 n), (3, .int .u64 (IntKind.u64.wrap (u.tdiv 10))), (4, .arr 0 0 1), (5, .undef), (6, .undef)]) [some (.cells [.int .u8 (IntKind.u8.wrap (IntKind.u64.wrap (48 + u.tmod 10)))])] := by
    intro u hu
    rw [hu] at hr
    have h19 := pow19
    rw [digit hr.1, tenth hr.1 hr.2]
    refine fmt1a_runs n _ _ (by omega) (by omega) ?_
    rw [hu]; rfl
  simp only [Tree.holds, decide_eq_true_eq, decide_eq_false_iff_not]
  refine ⟨fun h => ⟨by decide, by decide, slotsS_len _ _, key _ (by unfold size; rw [if_pos h])⟩, fun h => ⟨by decide, by decide, slotsS_len _ _, key _ (by unfold size; rw [if_neg h])⟩⟩

/-! ### The document's way -/

structure SF where
  s : List UInt8
  u : Int
  b : Bool
  k : Nat
  P : List Int
def SF.inv (n : Int) (x : SF) : Prop := 0 ≤ x.u ∧ x.u < 10 ^ x.k ∧ x.u < 18446744073709551616 ∧ (x.b = true → 1 ≤ x.k) ∧ x.s = toB x.P.reverse ∧ x.P ++ (if x.b then rd x.k x.u else []) = rd 20 (size n)

theorem fmtR_loop (n : Int) : ∀ x : SF, x.inv n → RunsR Tryd.prog (fnOf Tryd.prog 38) (.str (fmt n)) (loopOf Tryd.prog 38 0) (slotsS 26 [(0, I64 n), (3, .str x.s), (4, .int .u64 x.u), (5, .bool x.b)]) [] := by
  refine runsR_of (hK (l := []) trivial) (n := 1000) (hint := .unit) rfl (fun x : SF => x.inv n) (fun x => x.k + (if x.b then 1 else 0)) (keepS 26 [0, 3, 4, 5]) (fun _ => loopOf Tryd.prog 38 0) (fun x => slotsS 26 [(0, I64 n), (3, .str x.s), (4, .int .u64 x.u), (5, .bool x.b)]) (fun x => []) (fun _ => fmtR1_p) (fun x hx => ?_)
  obtain ⟨s, u, b, k, P⟩ := x
  obtain ⟨h0, hk, h64, hb, hs, hP⟩ := hx
  dsimp only at h0 hk h64 hb hs hP ⊢
  have hPl : P.length ≤ 20 := by
    have := congrArg List.length hP
    have h2 := rd_len 20 (size n)
    rw [List.length_append] at this
    omega
  have hsl : s.length ≤ 20 := by rw [hs]; simpa [toB] using hPl
  rw [fmtR1]
  unfold fmtR1_t
  rw [digit h0, tenth h0 h64]
  simp only [Tree.holds, decide_eq_true_eq, decide_eq_false_iff_not]
  refine ⟨fun hbt => ⟨by decide, ?_, by decide, slotsS_len _ _, .inl ?_⟩, fun hbf => ⟨fun hn => ⟨?_, ?_⟩, fun hn => ?_⟩⟩
  · simp; omega
  · subst hbt
    obtain ⟨k', rfl⟩ : ∃ k', k = k' + 1 := ⟨k - 1, by have := hb rfl; omega⟩
    have hk2 : u / 10 < 10 ^ k' := by rw [Int.pow_succ] at hk; omega
    refine ⟨⟨_, u / 10, decide (u / 10 > 0), k', P ++ [48 + u % 10]⟩, ⟨by dsimp only; omega, hk2, by dsimp only; omega, fun hd => ?_, ?_, ?_⟩, ?_, by trivial, rfl, by trivial⟩
    · dsimp only at hd ⊢
      simp only [decide_eq_true_eq] at hd
      cases k' with
      | zero => simp at hk2; omega
      | succ k' => omega
    · dsimp only; rw [hs]; simp [toB]
    · dsimp only
      rw [← hP, if_pos rfl]
      have e : rd (k' + 1) u = (48 + u % 10) :: if 0 < u / 10 then rd k' (u / 10) else [] := rfl
      rw [e]
      simp only [decide_eq_true_eq, gt_iff_lt, List.append_assoc, List.singleton_append]
    · dsimp only
      simp
      split <;> omega
  · simp; omega
  · subst hbf
    show SV.str ([45] ++ s) = SV.str (fmt n)
    have : P = rd 20 (size n) := by rw [← hP]; simp
    rw [hs, this]
    unfold fmt backs
    rw [if_pos hn]
    simp [toB]
  · subst hbf
    show SV.str s = SV.str (fmt n)
    have : P = rd 20 (size n) := by rw [← hP]; simp
    rw [hs, this]
    unfold fmt backs
    rw [if_neg hn]
    simp [toB]

theorem s_fmtR (n : Int) : SCall Tryd.prog 38 [I64 n] (.str (fmt n)) := by
  refine scallR_loops rfl rfl (by kernel_rfl) (runsR_seg (hK (l := []) trivial) (n := 1000) (hint := .unit) (keep := keepS 26 [0, 3, 4, 5]) (p := fmtR0_p) (boxes := []) rfl ?_)
  have e := fmtR0 n
  unfold startS codeS at e
  erw [e]
  unfold fmtR0_t
  have hr := size_range n
  have key : ∀ u, size n = u → RunsR Tryd.prog (fnOf Tryd.prog 38) (.str (fmt n)) (loopOf Tryd.prog 38 0) (slotsS 26 [(0, I64 n), (3, .str []), (4, .int .u64 u), (5, .bool true)]) [] := by
    intro u hu
    rw [hu] at hr
    refine fmtR_loop n ⟨[], u, true, 20, []⟩ ⟨hr.1, ?_, hr.2, fun _ => by dsimp only; omega, rfl, ?_⟩
    · have : (10 : Int) ^ 20 = 100000000000000000000 := by decide
      dsimp only; omega
    · dsimp only; rw [hu]; simp
  simp only [Tree.holds, decide_eq_true_eq, decide_eq_false_iff_not]
  refine ⟨fun h => ⟨slotsS_len _ _, key _ (by unfold size; rw [if_pos h])⟩, fun h => ⟨slotsS_len _ _, key _ (by unfold size; rw [if_neg h])⟩⟩
def fFmt : Fact := factI 25 fun n => .leaf (.str (fmt n))
def fFmtR : Fact := factI 38 fun n => .leaf (.str (fmt n))
theorem o_fmt : fFmt.ok Tryd.prog := factI_ok s_fmt
theorem o_fmtR : fFmtR.ok Tryd.prog := factI_ok s_fmtR
end Go.Proofs.YtkmohnciiincmaaDoor
set_option linter.unusedSimpArgs false
set_option linter.unusedVariables false
set_option maxRecDepth 100000
namespace Go.Proofs.YtkmohnciiincmaaDoor
open Go.Sx
def letters : List UInt8 := [88, 89, 90, 69, 70, 83]
def sp : List UInt8 := [32]
def letter (j i : Int) : List UInt8 := List.drop i.toNat (List.take j.toNat letters)
def nameOf (k : Int) : List UInt8 := if k < 1000 then [71] ++ fmt k else [77] ++ fmt (IntKind.i64.wrap (k - 1000))
def fName : Fact := factI 24 fun k => .leaf (.str (nameOf k))
def fNameR : Fact := factI 31 fun k => .leaf (.str (nameOf k))
theorem fmt_len (n : Int) : (fmt n).length ≤ 21 := by
  have := (backs_len n).1
  simpa [fmt, toB] using this
theorem s_name (k : Int) : SCall Tryd.prog 24 [I64 k] (.str (nameOf k)) :=
  scall_v mix [fFmt] ⟨o_fmt, trivial⟩ 1000 (.fork (.all) (.all))
   (t := .node (decide (k < 1000))
 (.req (decide (((1 + (fmt k).length : Nat) : Int) ≤ (9223372036854775807 : Int))) (.leaf (SV.str ([71] ++ fmt k))))
 (.req (decide (((1 + (fmt (IntKind.i64.wrap (k - 1000))).length : Nat) : Int) ≤ (9223372036854775807 : Int))) (.leaf (SV.str ([77] ++ fmt (IntKind.i64.wrap (k - 1000)))))))
   (by kernel_rfl) (by 
    have h1 := fmt_len k
    have h2 := fmt_len (IntKind.i64.wrap (k - 1000))
    simp only [Tree.holds, decide_eq_true_eq, decide_eq_false_iff_not]
    refine ⟨fun h => ⟨by simp; omega, by unfold nameOf; rw [if_pos h]⟩, fun h => ⟨by simp; omega, by unfold nameOf; rw [if_neg h]⟩⟩) (by kernel_rfl) (by kernel_rfl)
theorem o_name : fName.ok Tryd.prog := factI_ok s_name
theorem s_nameR (k : Int) : SCall Tryd.prog 31 [I64 k] (.str (nameOf k)) :=
  scall_v mix [fFmtR] ⟨o_fmtR, trivial⟩ 1000 (.fork (.all) (.all))
   (t := .node (decide (k < 1000))
 (.req (decide (((1 + (fmt k).length : Nat) : Int) ≤ (9223372036854775807 : Int))) (.leaf (SV.str ([71] ++ fmt k))))
 (.req (decide (((1 + (fmt (IntKind.i64.wrap (k - 1000))).length : Nat) : Int) ≤ (9223372036854775807 : Int))) (.leaf (SV.str ([77] ++ fmt (IntKind.i64.wrap (k - 1000)))))))
   (by kernel_rfl) (by 
    have h1 := fmt_len k
    have h2 := fmt_len (IntKind.i64.wrap (k - 1000))
    simp only [Tree.holds, decide_eq_true_eq, decide_eq_false_iff_not]
    refine ⟨fun h => ⟨by simp; omega, by unfold nameOf; rw [if_pos h]⟩, fun h => ⟨by simp; omega, by unfold nameOf; rw [if_neg h]⟩⟩) (by kernel_rfl) (by kernel_rfl)
theorem o_nameR : fNameR.ok Tryd.prog := factI_ok s_nameR
def print0_p : Plan := .fork (.all) (.all)
noncomputable def print0_t (c : C) : Tree Stop :=
   .node (!c.valid)
 (.leaf (Stop.done (SV.tuple [SV.str [], I64 1])))
 (.leaf (Stop.at (loopOf Tryd.prog 8 0) 36 (slotsS 36 [(1, SV.ptr 0 0), (4, SV.str (nameOf c.code)), (12, I64 0)]) [some (Box.cells [I64 c.code, I64 c.has, I64 c.x, I64 c.y, I64 c.z, I64 c.e, I64 c.f, I64 c.s])]))
theorem print0 (c : C) : segR (Env.of Tryd.prog (sumOf [fValid, fName, fField, fFmt])) 1000 (fnOf Tryd.prog 8) .unit (keepS 36 [1,4,12]) (codeS Tryd.prog 8) print0_p (startS Tryd.prog 8 [c.sv]) [] = print0_t c := by kernel_rfl
def print1_p : Plan := .fork (.fork (.fork (.all) (.fork (.all) (.fork (.all) (.fork (.all) (.fork (.all) (.all)))))) (.all)) (.all)
noncomputable def print1_t (c : C) (s : List UInt8) (i : Int) : Tree Stop :=
   .node (decide (i < 6))
 (.req (decide (0 ≤ i)) (.node (IntKind.i64.wrap ↑(BitVec.ofInt 64 (c.has.fdiv (2 ^ min i.toNat 64)) &&& BitVec.ofInt 64 1).toNat == 1)
   (.req (decide (0 ≤ IntKind.i64.wrap (i + 1)) && decide (IntKind.i64.wrap (i + 1) ≤ 6) && decide (0 ≤ i) && decide (i ≤ IntKind.i64.wrap (i + 1))) (.req (decide (((1 + (List.drop i.toNat (List.take (IntKind.i64.wrap (i + 1)).toNat letters)).length : Nat) : Int) ≤ (9223372036854775807 : Int))) (.node (i == 0)
      (.req (decide ((((sp ++ List.drop i.toNat (List.take (IntKind.i64.wrap (i + 1)).toNat letters)).length + (fmt c.x).length : Nat) : Int) ≤ (9223372036854775807 : Int))) (.req (decide (((s.length + (sp ++ List.drop i.toNat (List.take (IntKind.i64.wrap (i + 1)).toNat letters) ++ fmt c.x).length : Nat) : Int) ≤ (9223372036854775807 : Int))) (.leaf (Stop.at (loopOf Tryd.prog 8 0) 36 (slotsS 36 [(1, SV.ptr 0 0), (4, SV.str (s ++ (sp ++ List.drop i.toNat (List.take (IntKind.i64.wrap (i + 1)).toNat letters) ++ fmt c.x))), (12, I64 (IntKind.i64.wrap (i + 1)))]) [some (Box.cells [I64 c.code, I64 c.has, I64 c.x, I64 c.y, I64 c.z, I64 c.e, I64 c.f, I64 c.s])]))))
      (.node (i == 1)
       (.req (decide ((((sp ++ List.drop i.toNat (List.take (IntKind.i64.wrap (i + 1)).toNat letters)).length + (fmt c.y).length : Nat) : Int) ≤ (9223372036854775807 : Int))) (.req (decide (((s.length + (sp ++ List.drop i.toNat (List.take (IntKind.i64.wrap (i + 1)).toNat letters) ++ fmt c.y).length : Nat) : Int) ≤ (9223372036854775807 : Int))) (.leaf (Stop.at (loopOf Tryd.prog 8 0) 36 (slotsS 36 [(1, SV.ptr 0 0), (4, SV.str (s ++ (sp ++ List.drop i.toNat (List.take (IntKind.i64.wrap (i + 1)).toNat letters) ++ fmt c.y))), (12, I64 (IntKind.i64.wrap (i + 1)))]) [some (Box.cells [I64 c.code, I64 c.has, I64 c.x, I64 c.y, I64 c.z, I64 c.e, I64 c.f, I64 c.s])]))))
       (.node (i == 2)
        (.req (decide ((((sp ++ List.drop i.toNat (List.take (IntKind.i64.wrap (i + 1)).toNat letters)).length + (fmt c.z).length : Nat) : Int) ≤ (9223372036854775807 : Int))) (.req (decide (((s.length + (sp ++ List.drop i.toNat (List.take (IntKind.i64.wrap (i + 1)).toNat letters) ++ fmt c.z).length : Nat) : Int) ≤ (9223372036854775807 : Int))) (.leaf (Stop.at (loopOf Tryd.prog 8 0) 36 (slotsS 36 [(1, SV.ptr 0 0), (4, SV.str (s ++ (sp ++ List.drop i.toNat (List.take (IntKind.i64.wrap (i + 1)).toNat letters) ++ fmt c.z))), (12, I64 (IntKind.i64.wrap (i + 1)))]) [some (Box.cells [I64 c.code, I64 c.has, I64 c.x, I64 c.y, I64 c.z, I64 c.e, I64 c.f, I64 c.s])]))))
        (.node (i == 3)
         (.req (decide ((((sp ++ List.drop i.toNat (List.take (IntKind.i64.wrap (i + 1)).toNat letters)).length + (fmt c.e).length : Nat) : Int) ≤ (9223372036854775807 : Int))) (.req (decide (((s.length + (sp ++ List.drop i.toNat (List.take (IntKind.i64.wrap (i + 1)).toNat letters) ++ fmt c.e).length : Nat) : Int) ≤ (9223372036854775807 : Int))) (.leaf (Stop.at (loopOf Tryd.prog 8 0) 36 (slotsS 36 [(1, SV.ptr 0 0), (4, SV.str (s ++ (sp ++ List.drop i.toNat (List.take (IntKind.i64.wrap (i + 1)).toNat letters) ++ fmt c.e))), (12, I64 (IntKind.i64.wrap (i + 1)))]) [some (Box.cells [I64 c.code, I64 c.has, I64 c.x, I64 c.y, I64 c.z, I64 c.e, I64 c.f, I64 c.s])]))))
         (.node (i == 4)
          (.req (decide ((((sp ++ List.drop i.toNat (List.take (IntKind.i64.wrap (i + 1)).toNat letters)).length + (fmt c.f).length : Nat) : Int) ≤ (9223372036854775807 : Int))) (.req (decide (((s.length + (sp ++ List.drop i.toNat (List.take (IntKind.i64.wrap (i + 1)).toNat letters) ++ fmt c.f).length : Nat) : Int) ≤ (9223372036854775807 : Int))) (.leaf (Stop.at (loopOf Tryd.prog 8 0) 36 (slotsS 36 [(1, SV.ptr 0 0), (4, SV.str (s ++ (sp ++ List.drop i.toNat (List.take (IntKind.i64.wrap (i + 1)).toNat letters) ++ fmt c.f))), (12, I64 (IntKind.i64.wrap (i + 1)))]) [some (Box.cells [I64 c.code, I64 c.has, I64 c.x, I64 c.y, I64 c.z, I64 c.e, I64 c.f, I64 c.s])]))))
          (.req (decide ((((sp ++ List.drop i.toNat (List.take (IntKind.i64.wrap (i + 1)).toNat letters)).length + (fmt c.s).length : Nat) : Int) ≤ (9223372036854775807 : Int))) (.req (decide (((s.length + (sp ++ List.drop i.toNat (List.take (IntKind.i64.wrap (i + 1)).toNat letters) ++ fmt c.s).length : Nat) : Int) ≤ (9223372036854775807 : Int))) (.leaf (Stop.at (loopOf Tryd.prog 8 0) 36 (slotsS 36 [(1, SV.ptr 0 0), (4, SV.str (s ++ (sp ++ List.drop i.toNat (List.take (IntKind.i64.wrap (i + 1)).toNat letters) ++ fmt c.s))), (12, I64 (IntKind.i64.wrap (i + 1)))]) [some (Box.cells [I64 c.code, I64 c.has, I64 c.x, I64 c.y, I64 c.z, I64 c.e, I64 c.f, I64 c.s])])))))))))))
   (.leaf (Stop.at (loopOf Tryd.prog 8 0) 36 (slotsS 36 [(1, SV.ptr 0 0), (4, SV.str s), (12, I64 (IntKind.i64.wrap (i + 1)))]) [some (Box.cells [I64 c.code, I64 c.has, I64 c.x, I64 c.y, I64 c.z, I64 c.e, I64 c.f, I64 c.s])]))))
 (.leaf (Stop.done (SV.tuple [SV.str s, I64 0])))
theorem print1 (c : C) (s : List UInt8) (i : Int) : segR (Env.of Tryd.prog (sumOf [fValid, fName, fField, fFmt])) 1000 (fnOf Tryd.prog 8) .unit (keepS 36 [1,4,12]) (loopOf Tryd.prog 8 0) print1_p (slotsS 36 [(1, .ptr 0 0), (4, .str s), (12, I64 i)]) [some (.cells c.cells)] = print1_t c s i := by kernel_rfl
end Go.Proofs.YtkmohnciiincmaaDoor
set_option linter.unusedSimpArgs false
set_option linter.unusedVariables false
set_option maxRecDepth 100000
namespace Go.Proofs.YtkmohnciiincmaaDoor
open Go.Sx

def wordT (c : C) (i : Int) : List UInt8 := if bit c.has i = 1 then sp ++ letter (i + 1) i ++ fmt (c.num i) else []
def words (c : C) : Nat → List UInt8
  | 0 => []
  | n + 1 => wordT c (5 - n) ++ words c n
theorem words_step (c : C) {i : Int} (h : 0 ≤ i) (h6 : i < 6) : words c (6 - i).toNat = wordT c i ++ words c (6 - (i + 1)).toNat := by
  obtain ⟨n, hn⟩ : ∃ n : Nat, (6 - i).toNat = n + 1 := ⟨(5 - i).toNat, by omega⟩
  rw [hn, show (6 - (i + 1)).toNat = n by omega, words, show (5 : Int) - n = i by omega]
def C.text (c : C) : List UInt8 := nameOf c.code ++ words c 6
def printV (ok : Bool) (c : C) : SV := if ok then .tuple [.str c.text, I64 0] else .tuple [.str [], I64 1]

theorem letter_len (j i : Int) : (letter j i).length ≤ 6 := by
  unfold letter
  rw [List.length_drop, List.length_take]
  have : letters.length = 6 := rfl
  omega
theorem name_len (k : Int) : (nameOf k).length ≤ 22 := by
  have h1 := fmt_len k
  have h2 := fmt_len (IntKind.i64.wrap (k - 1000))
  unfold nameOf
  split <;> simp <;> omega
theorem wordT_len (c : C) (i : Int) : (wordT c i).length ≤ 28 := by
  have h1 := letter_len (i + 1) i
  have h2 := fmt_len (c.num i)
  unfold wordT
  split
  · simp only [List.length_append]; have : sp.length = 1 := rfl; omega
  · simp

noncomputable def stP (c : C) (s : List UInt8) (i : Int) : Stop := Stop.at (loopOf Tryd.prog 8 0) 36 (slotsS 36 [(1, SV.ptr 0 0), (4, SV.str s), (12, I64 i)]) [some (Box.cells c.cells)]
theorem print_leaves {c : C} {s : List UInt8} {i : Int} (h0 : 0 ≤ i) (hs : (s.length : Int) ≤ 1000) (Q : Stop → Prop) (q0 : 6 ≤ i → Q (.done (.tuple [.str s, I64 0]))) (q2 : i < 6 → Q (stP c (s ++ wordT c i) (i + 1))) : (print1_t c s i).holds Q := by
  unfold print1_t
  have eb : IntKind.i64.wrap ↑(BitVec.ofInt 64 (c.has.fdiv (2 ^ min i.toNat 64)) &&& BitVec.ofInt 64 1).toNat = bit c.has i := rfl
  rw [eb]
  have hl : ((letters.length : Nat) : Int) = 6 := rfl
  have hsp : sp.length = 1 := rfl
  by_cases h6 : i < 6
  · have el : List.drop i.toNat (List.take (i + 1).toNat letters) = letter (i + 1) i := rfl
    rw [wrap64 (by omega) (by omega)]
    simp only [el]
    have ll := letter_len (i + 1) i
    have q2 := q2 h6
    unfold stP C.cells at q2
    have key : ∀ n, c.num i = n → bit c.has i = 1 → (Tree.req (decide (((((sp ++ (letter (i + 1) i)).length + (fmt n).length : Nat)) : Int) ≤ (9223372036854775807 : Int))) (.req (decide ((((s.length + (sp ++ (letter (i + 1) i) ++ fmt n).length : Nat)) : Int) ≤ (9223372036854775807 : Int))) (.leaf (Stop.at (loopOf Tryd.prog 8 0) 36 (slotsS 36 [(1, SV.ptr 0 0), (4, SV.str (s ++ (sp ++ (letter (i + 1) i) ++ fmt n))), (12, I64 (i + 1))]) [some (Box.cells [I64 c.code, I64 c.has, I64 c.x, I64 c.y, I64 c.z, I64 c.e, I64 c.f, I64 c.s])])))).holds Q := by
      intro n hn hb
      have hf := fmt_len n
      unfold wordT at q2
      rw [if_pos hb, hn] at q2
      simp only [Tree.holds, decide_eq_true_eq, List.length_append]
      exact ⟨by omega, by omega, q2⟩
    simp only [Tree.holds, decide_eq_true_eq, decide_eq_false_iff_not, beq_iff_eq, beq_eq_false_iff_ne, Bool.and_eq_true] at key ⊢
    refine ⟨fun _ => ⟨h0, fun hb => ⟨⟨⟨⟨by omega, by omega⟩, h0⟩, by omega⟩, by omega, ?_, fun n0 => ⟨?_, fun n1 => ⟨?_, fun n2 => ⟨?_, fun n3 => ⟨?_, fun n4 => ?_⟩⟩⟩⟩⟩, fun hb => ?_⟩, fun h => absurd h6 h⟩
    · rintro rfl; exact key _ (num0 c) hb
    · rintro rfl; exact key _ (num1 c) hb
    · rintro rfl; exact key _ (num2 c) hb
    · rintro rfl; exact key _ (num3 c) hb
    · rintro rfl; exact key _ (num4 c) hb
    · obtain rfl : i = 5 := by omega
      exact key _ (num5 c) hb
    · unfold wordT at q2
      rw [if_neg hb, List.append_nil] at q2
      exact q2
  · simp only [Tree.holds, decide_eq_true_eq, decide_eq_false_iff_not]
    exact ⟨fun h => absurd h h6, fun _ => q0 (by omega)⟩

theorem fsP : allOk Tryd.prog [fValid, fName, fField, fFmt] := ⟨o_valid, o_name, o_field, o_fmt, trivial⟩
structure SP where
  s : List UInt8
  i : Int
def SP.inv (c : C) (T : List UInt8) (x : SP) : Prop := 0 ≤ x.i ∧ x.i ≤ 6 ∧ (x.s.length : Int) ≤ 22 + 28 * x.i ∧ T = x.s ++ words c (6 - x.i).toNat

theorem print_loop (c : C) (T : List UInt8) : ∀ x : SP, x.inv c T → RunsR Tryd.prog (fnOf Tryd.prog 8) (.tuple [.str T, I64 0]) (loopOf Tryd.prog 8 0) (slotsS 36 [(1, .ptr 0 0), (4, .str x.s), (12, I64 x.i)]) [some (.cells c.cells)] := by
  refine runsR_of (hK fsP) (n := 1000) (hint := .unit) rfl (fun x : SP => x.inv c T) (fun x => (6 - x.i).toNat) (keepS 36 [1, 4, 12]) (fun _ => loopOf Tryd.prog 8 0) (fun x => slotsS 36 [(1, .ptr 0 0), (4, .str x.s), (12, I64 x.i)]) (fun _ => [some (.cells c.cells)]) (fun _ => print1_p) fun x hx => ?_
  obtain ⟨s, i⟩ := x
  obtain ⟨h0, h6, hl, hT⟩ := hx
  dsimp only at h0 h6 hl hT ⊢
  rw [print1]
  refine print_leaves h0 (by omega) _ (fun h => ?_) (fun h => ?_)
  · show SV.tuple [SV.str s, I64 0] = SV.tuple [SV.str T, I64 0]
    rw [hT, show (6 - i).toNat = 0 by omega]; simp [words]
  · have := wordT_len c i
    refine ⟨slotsS_len _ _, .inl ⟨⟨s ++ wordT c i, i + 1⟩, ⟨by dsimp only; omega, by dsimp only; omega, by dsimp only; rw [List.length_append]; omega, ?_⟩, by dsimp only; omega, rfl, rfl, rfl⟩⟩
    dsimp only; rw [hT, words_step c h0 h, List.append_assoc]

theorem print_start (c : C) : SP.inv c c.text ⟨nameOf c.code, 0⟩ := by
  have := name_len c.code
  exact ⟨by dsimp only; omega, by dsimp only; omega, by dsimp only; omega, rfl⟩

theorem printV_data (ok : Bool) (c : C) : (printV ok c).data = true := by cases ok <;> rfl

theorem s_print (c : C) : SCall Tryd.prog 8 [c.sv] (printV c.valid c) := by
  refine scallR_loops rfl (printV_data _ _) (by kernel_rfl) (runsR_seg (hK fsP) (n := 1000) (hint := .unit) (keep := keepS 36 [1, 4, 12]) (p := print0_p) (boxes := []) (printV_data _ _) ?_)
  have e := print0 c
  unfold startS codeS at e
  erw [e]
  unfold print0_t
  simp only [Tree.holds, Bool.not_eq_true', Bool.not_eq_false']
  refine ⟨fun h => ?_, fun h => ⟨slotsS_len _ _, ?_⟩⟩
  · rw [h]; rfl
  · rw [h]; exact print_loop c c.text ⟨nameOf c.code, 0⟩ (print_start c)

def fPrint : Fact := factC 8 fun c => .node c.valid (.leaf (.tuple [.str c.text, I64 0])) (.leaf (.tuple [.str [], I64 1]))
theorem o_print : fPrint.ok Tryd.prog := factC_ok fun c => ⟨fun h => by have := s_print c; rw [h] at this; exact this, fun h => by have := s_print c; rw [h] at this; exact this⟩
end Go.Proofs.YtkmohnciiincmaaDoor
set_option linter.unusedSimpArgs false
set_option linter.unusedVariables false
set_option maxRecDepth 100000
namespace Go.Proofs.YtkmohnciiincmaaDoor
open Go.Sx

/-! ### Numbers from their texts -/

def dv : List Int → Int
  | [] => 0
  | d :: r => (d - 48) + 10 * dv r
theorem dv_rd : ∀ (k : Nat) (u : Int), 0 ≤ u → u < 10 ^ k → dv (rd k u) = u
  | 0, u, h0, hk => by simp at hk; have : u = 0 := by omega
                       subst this; rfl
  | k + 1, u, h0, hk => by
    unfold rd
    rw [Int.pow_succ] at hk
    split
    · rename_i h
      have := dv_rd k (u / 10) (by omega) (by omega)
      simp only [dv, this]; omega
    · simp only [dv]; omega
theorem rd_digits : ∀ (k : Nat) (u : Int), 0 ≤ u → ∀ d ∈ rd k u, 48 ≤ d ∧ d ≤ 57
  | 0, u, h0, d, hd => by cases hd
  | k + 1, u, h0, d, hd => by
    unfold rd at hd
    cases hd with
    | head => omega
    | tail _ hd =>
      split at hd
      · exact rd_digits k (u / 10) (by omega) d hd
      · cases hd
theorem backs_bytes (n : Int) : ∀ d ∈ backs n, 45 ≤ d ∧ d ≤ 57 := by
  intro d hd
  unfold backs at hd
  rcases List.mem_append.1 hd with hd | hd
  · have := rd_digits 20 _ (size_range n).1 d hd; omega
  · split at hd
    · simp at hd; omega
    · cases hd
theorem toB_inj : ∀ {l m : List Int}, (∀ d ∈ l, 45 ≤ d ∧ d ≤ 57) → (∀ d ∈ m, 45 ≤ d ∧ d ≤ 57) → toB l = toB m → l = m
  | [], [], _, _, _ => rfl
  | [], y :: m, _, _, h => by simp [toB] at h
  | x :: l, [], _, _, h => by simp [toB] at h
  | x :: l, y :: m, hl, hm, h => by
    simp only [toB, List.map_cons, List.cons.injEq] at h
    have hx := hl x List.mem_cons_self
    have hy := hm y List.mem_cons_self
    have h1 := congrArg UInt8.toNat h.1
    simp only [UInt8.toNat_ofNat'] at h1
    have : x = y := by omega
    subst this
    rw [toB_inj (fun d hd => hl d (List.mem_cons_of_mem _ hd)) (fun d hd => hm d (List.mem_cons_of_mem _ hd)) h.2]
theorem fmt_inj {m n : Int} (hm : -9223372036854775808 ≤ m ∧ m ≤ 9223372036854775807) (hn : -9223372036854775808 ≤ n ∧ n ≤ 9223372036854775807) (h : fmt m = fmt n) : m = n := by
  have hb : backs m = backs n := by
    have := toB_inj (l := (backs m).reverse) (m := (backs n).reverse) (fun d hd => backs_bytes m d (List.mem_reverse.1 hd)) (fun d hd => backs_bytes n d (List.mem_reverse.1 hd)) h
    exact List.reverse_inj.1 this
  have sm := size_range m
  have sn := size_range n
  have key : rd 20 (size m) = rd 20 (size n) → size m = size n := fun e => by
    have p : (10 : Int) ^ 20 = 100000000000000000000 := by decide
    have := congrArg dv e
    rwa [dv_rd 20 _ sm.1 (by omega), dv_rd 20 _ sn.1 (by omega)] at this
  unfold backs at hb
  by_cases h1 : m < 0 <;> by_cases h2 : n < 0
  · rw [if_pos h1, if_pos h2] at hb
    have := key (List.append_cancel_right hb)
    unfold size at this
    rw [if_pos h1, if_pos h2] at this
    simp only [u64_def] at this
    omega
  · rw [if_pos h1, if_neg h2, List.append_nil] at hb
    have : (45 : Int) ∈ rd 20 (size n) := by rw [← hb]; simp
    have := rd_digits 20 _ sn.1 _ this
    omega
  · rw [if_neg h1, if_pos h2, List.append_nil] at hb
    have : (45 : Int) ∈ rd 20 (size m) := by rw [hb]; simp
    have := rd_digits 20 _ sm.1 _ this
    omega
  · rw [if_neg h1, if_neg h2, List.append_nil, List.append_nil] at hb
    have := key hb
    unfold size at this
    rw [if_neg h1, if_neg h2] at this
    simp only [u64_def] at this
    omega
theorem toB_mem {l : List Int} {x : UInt8} (hl : ∀ d ∈ l, 45 ≤ d ∧ d ≤ 57) (h : x ∈ toB l) : x ≠ 32 := by
  obtain ⟨d, hd, rfl⟩ := List.mem_map.1 h
  have := hl d hd
  intro e
  have h1 := congrArg UInt8.toNat e
  simp only [UInt8.toNat_ofNat'] at h1
  have : (32 : UInt8).toNat = 32 := rfl
  omega
theorem fmt_nospace (n : Int) : ∀ x ∈ fmt n, x ≠ 32 := fun x hx => toB_mem (fun d hd => backs_bytes n d (List.mem_reverse.1 hd)) hx
theorem name_nospace (k : Int) : ∀ x ∈ nameOf k, x ≠ 32 := by
  intro x hx
  unfold nameOf at hx
  split at hx <;> (rcases List.mem_append.1 hx with h | h; · simp at h; subst h; decide) <;> exact fmt_nospace _ x h

/-! ### Parts between spaces -/

def Heads (r : List UInt8) : Prop := r = [] ∨ ∃ t, r = 32 :: t
theorem cutAt : ∀ {x y r s : List UInt8}, (∀ a ∈ x, a ≠ 32) → (∀ a ∈ y, a ≠ 32) → Heads r → Heads s → x ++ r = y ++ s → x = y ∧ r = s
  | [], [], r, s, _, _, _, _, h => ⟨rfl, h⟩
  | [], b :: y, r, s, _, hy, hr, _, h => by
    rcases hr with rfl | ⟨t, rfl⟩
    · cases h
    · injection h with h1 h2; exact absurd h1.symm (hy b List.mem_cons_self)
  | a :: x, [], r, s, hx, _, _, hs, h => by
    rcases hs with rfl | ⟨t, rfl⟩
    · cases h
    · injection h with h1 h2; exact absurd h1 (hx a List.mem_cons_self)
  | a :: x, b :: y, r, s, hx, hy, hr, hs, h => by
    injection h with h1 h2
    obtain ⟨h3, h4⟩ := cutAt (fun a ha => hx a (List.mem_cons_of_mem _ ha)) (fun a ha => hy a (List.mem_cons_of_mem _ ha)) hr hs h2
    exact ⟨by rw [h1, h3], h4⟩

theorem letter_one {i : Int} (h0 : 0 ≤ i) (h6 : i < 6) : letter (i + 1) i = [letters.getD i.toNat 0] := by
  have : i = 0 ∨ i = 1 ∨ i = 2 ∨ i = 3 ∨ i = 4 ∨ i = 5 := by omega
  rcases this with rfl | rfl | rfl | rfl | rfl | rfl <;> rfl
theorem letters_apart {i j : Int} (h0 : 0 ≤ i) (hij : i < j) (h6 : j < 6) : letters.getD i.toNat 0 ≠ letters.getD j.toNat 0 := by
  have h1 : i = 0 ∨ i = 1 ∨ i = 2 ∨ i = 3 ∨ i = 4 ∨ i = 5 := by omega
  have h2 : j = 0 ∨ j = 1 ∨ j = 2 ∨ j = 3 ∨ j = 4 ∨ j = 5 := by omega
  rcases h1 with rfl | rfl | rfl | rfl | rfl | rfl <;> rcases h2 with rfl | rfl | rfl | rfl | rfl | rfl <;> first | omega | decide

theorem words_head (c : C) : ∀ k : Nat, k ≤ 6 → words c k = [] ∨ ∃ j : Int, 6 - (k : Int) ≤ j ∧ j < 6 ∧ ∃ r, words c k = 32 :: letters.getD j.toNat 0 :: r
  | 0, _ => .inl rfl
  | k + 1, hk => by
    unfold words wordT
    by_cases hb : bit c.has (5 - (k : Int)) = 1
    · rw [if_pos hb, letter_one (by omega) (by omega)]
      exact .inr ⟨5 - (k : Int), by omega, by omega, fmt (c.num (5 - (k : Int))) ++ words c k, rfl⟩
    · rw [if_neg hb, List.nil_append]
      rcases words_head c k (by omega) with h | ⟨j, h1, h2, r, h3⟩
      · exact .inl h
      · exact .inr ⟨j, by omega, h2, r, h3⟩
theorem words_heads (c : C) {k : Nat} (hk : k ≤ 6) : Heads (words c k) := by
  rcases words_head c k hk with h | ⟨j, _, _, r, h⟩
  · exact .inl h
  · exact .inr ⟨_, h⟩

def numsOk (c : C) : Prop := ∀ i : Int, 0 ≤ i → i < 6 → -9223372036854775808 ≤ c.num i ∧ c.num i ≤ 9223372036854775807

theorem words_inj {c d : C} (hc : numsOk c) (hd : numsOk d) : ∀ k : Nat, k ≤ 6 → words c k = words d k → ∀ i : Int, 6 - (k : Int) ≤ i → i < 6 → (bit c.has i = 1 ↔ bit d.has i = 1) ∧ (bit c.has i = 1 → c.num i = d.num i)
  | 0, _, _, i, h1, h2 => by omega
  | k + 1, hk, h, i, h1, h2 => by
    have hi0 : 0 ≤ 5 - (k : Int) := by omega
    have hi6 : 5 - (k : Int) < 6 := by omega
    have le := letter_one hi0 hi6
    have key : ((bit c.has (5 - (k : Int)) = 1 ↔ bit d.has (5 - (k : Int)) = 1) ∧ (bit c.has (5 - (k : Int)) = 1 → c.num (5 - (k : Int)) = d.num (5 - (k : Int)))) ∧ words c k = words d k := by
      unfold words wordT at h
      by_cases b1 : bit c.has (5 - (k : Int)) = 1 <;> by_cases b2 : bit d.has (5 - (k : Int)) = 1
      · rw [if_pos b1, if_pos b2] at h
        simp only [List.append_assoc] at h
        have h := List.append_cancel_left (List.append_cancel_left h)
        obtain ⟨e1, e2⟩ := cutAt (fmt_nospace _) (fmt_nospace _) (words_heads c (by omega)) (words_heads d (by omega)) h
        exact ⟨⟨⟨fun _ => b2, fun _ => b1⟩, fun _ => fmt_inj (hc _ hi0 hi6) (hd _ hi0 hi6) e1⟩, e2⟩
      · rw [if_pos b1, if_neg b2, le, List.nil_append] at h
        rcases words_head d k (by omega) with g | ⟨j, g1, g2, r, g3⟩
        · rw [g] at h; cases h
        · rw [g3] at h
          have h : (32 : UInt8) :: letters.getD (5 - (k : Int)).toNat 0 :: (fmt (c.num (5 - (k : Int))) ++ words c k) = 32 :: letters.getD j.toNat 0 :: r := h
          injection h with _ h
          injection h with h _
          exact absurd h (letters_apart hi0 (by omega) g2)
      · rw [if_neg b1, if_pos b2, le, List.nil_append] at h
        rcases words_head c k (by omega) with g | ⟨j, g1, g2, r, g3⟩
        · rw [g] at h; cases h
        · rw [g3] at h
          have h : (32 : UInt8) :: letters.getD j.toNat 0 :: r = 32 :: letters.getD (5 - (k : Int)).toNat 0 :: (fmt (d.num (5 - (k : Int))) ++ words d k) := h
          injection h with _ h
          injection h with h _
          exact absurd h.symm (letters_apart hi0 (by omega) g2)
      · rw [if_neg b1, if_neg b2] at h
        exact ⟨⟨⟨fun h => absurd h b1, fun h => absurd h b2⟩, fun h => absurd h b1⟩, h⟩
    by_cases hi : i = 5 - (k : Int)
    · subst hi; exact key.1
    · exact words_inj hc hd k (by omega) key.2 i (by omega) h2

/-! ### Bits -/

theorem has_small {h m : Int} (h1 : -9223372036854775808 ≤ h) (h2 : h ≤ 9223372036854775807) (hm : 0 ≤ m) (hm2 : m ≤ 63) (ha : andNot h m = 0) : 0 ≤ h ∧ h ≤ 63 := by
  have h0 := (andNot_zero h1 h2 hm (by omega) ha).1
  refine ⟨h0, ?_⟩
  have hx : BitVec.ofInt 64 h &&& ~~~BitVec.ofInt 64 m = 0#64 := wrap_zero ha
  have he : BitVec.ofInt 64 h = BitVec.ofInt 64 h &&& BitVec.ofInt 64 m := by
    apply BitVec.eq_of_getLsbD_eq
    intro i hi
    have := congrArg (fun x => x.getLsbD i) hx
    simp only [BitVec.getLsbD_and, BitVec.getLsbD_not, BitVec.getLsbD_zero, hi, decide_true, Bool.true_and] at this ⊢
    cases h3 : (BitVec.ofInt 64 h).getLsbD i <;> cases h4 : (BitVec.ofInt 64 m).getLsbD i <;> simp_all
  have h3 := congrArg BitVec.toNat he
  rw [BitVec.toNat_and] at h3
  have h4 : (BitVec.ofInt 64 h).toNat ≤ (BitVec.ofInt 64 m).toNat := by rw [h3]; exact Nat.and_le_right
  rw [BitVec.toNat_ofInt, BitVec.toNat_ofInt] at h4
  omega

theorem bits_sum : ∀ h : Fin 64, ((h.val : Nat) : Int) = bit h.val 0 + 2 * bit h.val 1 + 4 * bit h.val 2 + 8 * bit h.val 3 + 16 * bit h.val 4 + 32 * bit h.val 5 := by decide +kernel
theorem bits_of {h : Int} (h0 : 0 ≤ h) (h63 : h ≤ 63) : h = bit h 0 + 2 * bit h 1 + 4 * bit h 2 + 8 * bit h 3 + 16 * bit h 4 + 32 * bit h 5 := by
  have := bits_sum ⟨h.toNat, by omega⟩
  simp only at this
  rw [show ((h.toNat : Nat) : Int) = h by omega] at this
  exact this

/-! ### A valid command -/

theorem rest_all {c : C} (h : rest c 6 = true) : ∀ i : Int, 0 ≤ i → i < 6 → okW c i = true := by
  simp only [rest, Bool.and_eq_true] at h
  intro i h0 h6
  have : i = 0 ∨ i = 1 ∨ i = 2 ∨ i = 3 ∨ i = 4 ∨ i = 5 := by omega
  rcases this with rfl | rfl | rfl | rfl | rfl | rfl
  · exact h.1
  · exact h.2.1
  · exact h.2.2.1
  · exact h.2.2.2.1
  · exact h.2.2.2.2.1
  · exact h.2.2.2.2.2.1

theorem lohi (k i : Int) : -1073741824 ≤ lo k i ∧ hi k i ≤ 1073741824 := by
  unfold lo hi
  constructor <;> (repeat' split) <;> omega
structure Fine (c : C) : Prop where
  ok : okC c.code = true
  has : 0 ≤ c.has ∧ c.has ≤ 63
  nums : numsOk c
  zero : ∀ i : Int, 0 ≤ i → i < 6 → bit c.has i ≠ 1 → c.num i = 0
theorem fine_of {c : C} (hg : c.good) (h : c.valid = true) : Fine c := by
  simp only [C.valid, C.pre, Bool.and_eq_true, beq_iff_eq] at h
  obtain ⟨⟨h1, h2, _⟩, h4⟩ := h
  have hm : may c.code = 0 ∨ may c.code = 23 ∨ may c.code = 31 ∨ may c.code = 32 := by
    unfold may; (repeat' split) <;> simp
  have ra := rest_all h4
  refine ⟨h1, has_small hg.1 hg.2 (by omega) (by omega) h2, fun i h0 h6 => ?_, fun i h0 h6 hb => ?_⟩
  · have := (okW_ok (c := c) (i := i) rfl).1 (ra i h0 h6)
    have := lohi c.code i
    omega
  · have := (okW_ok (c := c) (i := i) rfl).1 (ra i h0 h6)
    have := bit_01 c.has i
    omega

theorem name_inj {k l : Int} (hk : okC k = true) (hl : okC l = true) (h : nameOf k = nameOf l) : k = l := by
  rw [okC_codes] at hk hl
  have hk : 0 ≤ k ∧ k < 2000 := by
    simp only [codes, List.mem_cons, List.not_mem_nil, or_false] at hk; omega
  have hl : 0 ≤ l ∧ l < 2000 := by
    simp only [codes, List.mem_cons, List.not_mem_nil, or_false] at hl; omega
  unfold nameOf at h
  by_cases h1 : k < 1000 <;> by_cases h2 : l < 1000
  · rw [if_pos h1, if_pos h2] at h
    exact fmt_inj (by omega) (by omega) (List.append_cancel_left h)
  · rw [if_pos h1, if_neg h2] at h
    have : (71 : UInt8) = 77 := by injection h
    exact absurd this (by decide)
  · rw [if_neg h1, if_pos h2] at h
    have : (77 : UInt8) = 71 := by injection h
    exact absurd this (by decide)
  · rw [if_neg h1, if_neg h2] at h
    have := fmt_inj (by rw [wrap64 (by omega) (by omega)]; omega) (by rw [wrap64 (by omega) (by omega)]; omega) (List.append_cancel_left h)
    rw [wrap64 (by omega) (by omega), wrap64 (by omega) (by omega)] at this
    omega

theorem text_inj {c d : C} (hc : Fine c) (hd : Fine d) (h : c.text = d.text) : c = d := by
  unfold C.text at h
  obtain ⟨h1, h2⟩ := cutAt (name_nospace _) (name_nospace _) (words_heads c (Nat.le_refl 6)) (words_heads d (Nat.le_refl 6)) h
  have e1 := name_inj hc.ok hd.ok h1
  have hw := words_inj hc.nums hd.nums 6 (Nat.le_refl 6) h2
  have hbit : ∀ i : Int, 0 ≤ i → i < 6 → bit c.has i = bit d.has i := fun i h0 h6 => by
    have := (hw i (by omega) h6).1
    have := bit_01 c.has i
    have := bit_01 d.has i
    omega
  have e2 : c.has = d.has := by
    rw [bits_of hc.has.1 hc.has.2, bits_of hd.has.1 hd.has.2, hbit 0 (by omega) (by omega), hbit 1 (by omega) (by omega), hbit 2 (by omega) (by omega), hbit 3 (by omega) (by omega), hbit 4 (by omega) (by omega), hbit 5 (by omega) (by omega)]
  have hnum : ∀ i : Int, 0 ≤ i → i < 6 → c.num i = d.num i := fun i h0 h6 => by
    by_cases hb : bit c.has i = 1
    · exact (hw i (by omega) h6).2 hb
    · rw [hc.zero i h0 h6 hb, hd.zero i h0 h6 (by rw [← hbit i h0 h6]; exact hb)]
  have n0 := hnum 0 (by omega) (by omega)
  have n1 := hnum 1 (by omega) (by omega)
  have n2 := hnum 2 (by omega) (by omega)
  have n3 := hnum 3 (by omega) (by omega)
  have n4 := hnum 4 (by omega) (by omega)
  have n5 := hnum 5 (by omega) (by omega)
  simp only [num0, num1, num2, num3, num4, num5] at n0 n1 n2 n3 n4 n5
  cases c; cases d
  simp_all

theorem apart_eq {a b : C} (ha : a.good) (hb : b.good) (va : a.valid = true) (vb : b.valid = true) : ((a.text == b.text) == (a.code == b.code && (a.has == b.has && (a.x == b.x && (a.y == b.y && (a.z == b.z && (a.e == b.e && (a.f == b.f && (a.s == b.s && true))))))))) = true := by
  have fa := fine_of ha va
  have fb := fine_of hb vb
  by_cases h : a = b
  · subst h; simp
  · have h1 : a.text ≠ b.text := fun e => h (text_inj fa fb e)
    have h2 : (a.code == b.code && (a.has == b.has && (a.x == b.x && (a.y == b.y && (a.z == b.z && (a.e == b.e && (a.f == b.f && (a.s == b.s && true)))))))) = false := by
      rw [← Bool.not_eq_true]
      intro hh
      apply h
      cases a; cases b
      simpa using hh
    rw [h2]
    simpa using h1
end Go.Proofs.YtkmohnciiincmaaDoor
set_option linter.unusedSimpArgs false
set_option linter.unusedVariables false
namespace Go.Sx
open Go.RowKit

theorem scall_lib {P : Program} {f : FuncId} {fn : Func} {args : List SV} {v : SV} (hd : dataL args = true) (hv : v.data = true) (hf : P.funcs[f]? = some fn) (hb : fn.body.isSome = true) (hn : (fn.name == "runtime.NumGoroutine") = false)
    (h : ∀ (R : Nat → Prop) (w : World) (vs : List Value), (∀ b, R b → b < w.heap.size) → Gnd w → RepL R (fun _ => (0, 0, 0)) 0 w args vs →
      Calls P f vs.toArray w fun e w' => ∃ u, e = .returned u ∧ Below w.heap.size w w' ∧ Rep (fun b => R b ∨ (w.heap.size ≤ b ∧ b < w'.heap.size)) (fun _ => (0, 0, 0)) 0 w' v u) : SCall P f args v := by
  intro m w0 R0 ρ w vs hm hvs
  obtain ⟨body, hb⟩ := Option.isSome_iff_exists.1 hb
  rw [callFunc_enter hf hb hn]
  obtain ⟨o1, o2⟩ := own_mem hm ρ
  have hvs' := RepL.data (R' := RO w0 R0 ρ w m) (ρ' := fun _ => (0, 0, 0)) (n' := 0) (fun b hb => hb) args vs hd hvs
  refine Calls.mono (h (RO w0 R0 ρ w m) w vs (fun b hb => hm.ro_lt hb) hm.gnd hvs') fun e w' ⟨u, he, g1, g3⟩ => ⟨u, he, ?_⟩
  have g : MRel w (RO w0 R0 ρ w m) ρ w' ⟨0, .e⟩ := ⟨⟨g1, hm.gnd⟩, fun id B h => (by cases h), fun id B h => (by cases h), fun id B h => (by cases h), fun id id' B B' h => (by cases h), fun id B h => (by cases h)⟩
  have hst := Hand.start hm g
  obtain ⟨k1, k2⟩ := hst.finish hm g
  refine ⟨ρ, k1, k2, Rep.data (fun b hb => ?_) v u hv g3⟩
  rcases hb with hb | hb
  · exact hst.ro b (.inr (.inl ⟨hb, hm.ro_lt hb⟩))
  · exact hst.ro b (.inr (.inr ⟨hb.1, hb.2, fun id B h => by cases h⟩))

/-- Strings in a new block read as a list. -/
theorem rep_new_strs {R : Nat → Prop} {ρ : Rho} {n : Nat} {w : World} {t : TypeId} (l : List ByteArray) (ls : List Ty.str.T) (cells : Array Value) (e : ls.length = l.length) (hls : ∀ i (h : i < ls.length) (h' : i < l.length), ls[i] = l[i].data.toList) (hc : cells = (l.map Value.string).toArray) (hR : R w.heap.size) : Rep R ρ n (w.alloc (.cells cells t)) (.list .str ls) (.slice (some ⟨w.heap.size, 0, none⟩) l.length l.length) := by
  subst hc
  refine ⟨some ⟨w.heap.size, 0, none⟩, l.length, by rw [e], Nat.le_of_eq e, fun hp => ⟨w.heap.size, 0, rfl, hR, fun i h => ⟨[.string (l[i]'(by rw [← e]; exact h))], rfl, fun j hj => ?_, ?_⟩⟩⟩
  · have hi : i < l.length := by rw [← e]; exact h
    obtain rfl : j = 0 := by have : j < 1 := hj; omega
    have hh : (w.alloc (.cells (l.map Value.string).toArray t)).heap[w.heap.size]? = some (.cells (l.map Value.string).toArray t) := by show (w.heap.push _)[w.heap.size]? = _; simp
    unfold World.cell?
    dsimp only
    rw [hh]
    simp [Ty.sz, hi]
  · have hi : i < l.length := by rw [← e]; exact h
    show [Value.string _] = [Value.string _]
    rw [List.get_eq_getElem, hls i h hi]
end Go.Sx
namespace Go.Proofs
open Go.Shelf
def Tryd.lays137_ren : Go.Shelf.Ren := ⟨fun | 137 => 13 | 217 => 28 | 266 => 36 | n => n, fun | 9 => 9 | 5 => 5 | 3 => 3 | n => n, fun | n => n⟩
theorem Tryd.lays137 : Go.Proofs.Lays.n137 Tryd.prog Tryd.lays137_ren := {
  mixed := by kernel_rfl
  f137 := Tryd.func13.trans (congrArg some (by kernel_rfl))
  f217 := Tryd.func28.trans (congrArg some (by kernel_rfl))
  f266 := Tryd.func36.trans (congrArg some (by kernel_rfl))
  t3 := Tryd.underlying3
  a3 := Tryd.isAgg3
  z3 := Tryd.sizeOf3
  v3 := Tryd.zeroValue3
  t5 := Tryd.underlying5
  a5 := Tryd.isAgg5
  z5 := Tryd.sizeOf5
  v5 := Tryd.zeroValue5
  t9 := Tryd.underlying9
  a9 := Tryd.isAgg9
  z9 := Tryd.sizeOf9
  v9 := Tryd.zeroValue9 }
open Go.RowKit in
/-- strings.IndexByte: "IndexByte returns the index of the first instance of c in s, or -1 if c is not present in s.": IT RETURNS 'Lib.indexByte s c'; the world is as it was. (LAID: no walk: one application.) -/
theorem Tryd.strings_IndexByte (s : ByteArray) (c : Int) (w : World) :
    Calls Tryd.prog 13 #[.string s, .int .u8 c] w fun e w' => e = .returned (.int .i64 (Lib.indexByte s.data.toList c.toNat.toUInt8)) ∧ w' = w := Any.strings_IndexByte Tryd.lays137 s c w
def Tryd.lays101_ren : Go.Shelf.Ren := ⟨fun | 101 => 29 | 208 => 37 | 206 => 43 | n => n, fun | 9 => 9 | 4 => 4 | 3 => 3 | n => n, fun | n => n⟩
theorem Tryd.lays101 : Go.Proofs.Lays.n101 Tryd.prog Tryd.lays101_ren := {
  mixed := by kernel_rfl
  f101 := Tryd.func29.trans (congrArg some (by kernel_rfl))
  f206 := Tryd.func43.trans (congrArg some (by kernel_rfl))
  f208 := Tryd.func37.trans (congrArg some (by kernel_rfl))
  t3 := Tryd.underlying3
  a3 := Tryd.isAgg3
  z3 := Tryd.sizeOf3
  v3 := Tryd.zeroValue3
  t4 := Tryd.underlying4
  a4 := Tryd.isAgg4
  z4 := Tryd.sizeOf4
  v4 := Tryd.zeroValue4
  t9 := Tryd.underlying9
  a9 := Tryd.isAgg9
  z9 := Tryd.sizeOf9
  v9 := Tryd.zeroValue9 }
open Go.RowKit Go.Lib in
/-- strings.TrimPrefix: "TrimPrefix returns s without the provided leading prefix string. If s doesn't start with prefix, s is returned unchanged.": IT RETURNS 'Lib.trimPrefix s prefix'; the world is as it was. (LAID: no walk: one application.) -/
theorem Tryd.strings_TrimPrefix (s p : ByteArray) (w : World) :
    Calls Tryd.prog 29 #[.string s, .string p] w fun e w' => e = .returned (.string ⟨(Lib.trimPrefix s.data.toList p.data.toList).toArray⟩) ∧ w' = w := Any.strings_TrimPrefix Tryd.lays101 s p w
def Tryd.laysM146_ren : Go.Shelf.Ren := ⟨fun | 146 => 10 | 221 => 27 | 268 => 33 | 138 => 34 | 143 => 35 | 195 => 39 | 197 => 40 | 218 => 41 | 219 => 42 | 260 => 45 | 217 => 28 | 225 => 46 | 224 => 47 | 267 => 48 | 266 => 36 | 314 => 49 | n => n, fun | 9 => 9 | 31 => 33 | 3 => 3 | 4 => 4 | 0 => 0 | 105 => 61 | 21 => 21 | 5 => 5 | 46 => 47 | 119 => 64 | 139 => 67 | 138 => 66 | 146 => 69 | 51 => 68 | n => n, fun | 1 => 0 | 3 => 1 | 4 => 2 | n => n⟩
theorem Tryd.laysM146 : Go.Proofs.LaysM.n146 Tryd.prog Tryd.laysM146_ren := {
  mixed := by kernel_rfl
  f138 := Tryd.func34.trans (congrArg some (by kernel_rfl))
  f143 := Tryd.func35.trans (congrArg some (by kernel_rfl))
  f146 := Tryd.func10.trans (congrArg some (by kernel_rfl))
  f195 := Tryd.func39.trans (congrArg some (by kernel_rfl))
  f197 := Tryd.func40.trans (congrArg some (by kernel_rfl))
  f217 := Tryd.func28.trans (congrArg some (by kernel_rfl))
  f218 := Tryd.func41.trans (congrArg some (by kernel_rfl))
  f219 := Tryd.func42.trans (congrArg some (by kernel_rfl))
  f221 := Tryd.func27.trans (congrArg some (by kernel_rfl))
  f224 := Tryd.func47.trans (congrArg some (by kernel_rfl))
  f225 := Tryd.func46.trans (congrArg some (by kernel_rfl))
  f260 := Tryd.func45.trans (congrArg some (by kernel_rfl))
  f266 := Tryd.func36.trans (congrArg some (by kernel_rfl))
  f267 := Tryd.func48.trans (congrArg some (by kernel_rfl))
  f268 := Tryd.func33.trans (congrArg some (by kernel_rfl))
  f314 := Tryd.func49.trans (congrArg some (by kernel_rfl))
  t0 := Tryd.underlying0
  a0 := Tryd.isAgg0
  z0 := Tryd.sizeOf0
  v0 := Tryd.zeroValue0
  t3 := Tryd.underlying3
  a3 := Tryd.isAgg3
  z3 := Tryd.sizeOf3
  v3 := Tryd.zeroValue3
  t4 := Tryd.underlying4
  a4 := Tryd.isAgg4
  z4 := Tryd.sizeOf4
  v4 := Tryd.zeroValue4
  t5 := Tryd.underlying5
  a5 := Tryd.isAgg5
  z5 := Tryd.sizeOf5
  v5 := Tryd.zeroValue5
  t9 := Tryd.underlying9
  a9 := Tryd.isAgg9
  z9 := Tryd.sizeOf9
  v9 := Tryd.zeroValue9
  t21 := Tryd.underlying21
  a21 := Tryd.isAgg21
  z21 := Tryd.sizeOf21
  v21 := Tryd.zeroValue21
  t31 := Tryd.underlying33
  a31 := Tryd.isAgg33
  z31 := Tryd.sizeOf33
  v31 := Tryd.zeroValue33
  t46 := Tryd.underlying47
  a46 := Tryd.isAgg47
  z46 := Tryd.sizeOf47
  v46 := Tryd.zeroValue47
  t51 := Tryd.underlying68
  a51 := Tryd.isAgg68
  z51 := Tryd.sizeOf68
  v51 := Tryd.zeroValue68
  t105 := Tryd.underlying61
  a105 := Tryd.isAgg61
  z105 := Tryd.sizeOf61
  v105 := Tryd.zeroValue61
  t119 := Tryd.underlying64
  a119 := Tryd.isAgg64
  z119 := Tryd.sizeOf64
  t138 := Tryd.underlying66
  a138 := Tryd.isAgg66
  z138 := Tryd.sizeOf66
  v138 := Tryd.zeroValue66
  t139 := Tryd.underlying67
  a139 := Tryd.isAgg67
  z139 := Tryd.sizeOf67
  v139 := Tryd.zeroValue67
  t146 := Tryd.underlying69
  a146 := Tryd.isAgg69
  z146 := Tryd.sizeOf69
  v146 := Tryd.zeroValue69
  g1 := by kernel_rfl
  g3 := by kernel_rfl
  g4 := by kernel_rfl
  i0 := by kernel_rfl
  i3 := by kernel_rfl
  i4 := by kernel_rfl
  i5 := by kernel_rfl
  i9 := by kernel_rfl
  i21 := by kernel_rfl
  i31 := by kernel_rfl
  i46 := by kernel_rfl
  i51 := by kernel_rfl
  i105 := by kernel_rfl
  i138 := by kernel_rfl
  i139 := by kernel_rfl
  i146 := by kernel_rfl
  m1 := by kernel_rfl
  s1_3 := fun w h => Go.Proofs.cell_of_shapedOpen_int (zero := #[.int .i64 0]) (t := 3) h (of_decide_eq_true (by kernel_rfl)) (by kernel_rfl) rfl (by kernel_rfl) (by kernel_rfl) Tryd.underlying3
  m3 := by kernel_rfl
  m4 := by kernel_rfl }
open Go.RowKit Go.Lib in
/-- strings.Split, sep not empty. (LAID: no walk: one application.) -/
theorem Tryd.strings_Split_shaped (s sep : ByteArray) (w : World) (h : w.ShapedOpen Tryd.prog) (hs : s.size < 4294967281) (h1 : 1 ≤ sep.size) :
    Calls Tryd.prog 10 #[.string s, .string sep] w fun e w' =>
      e = .returned (.slice (some ⟨w.heap.size, 0, none⟩) (Lib.countB s sep + 1) (Lib.countB s sep + 1)) ∧ w' = w.alloc (.cells ((Lib.splitB sep 0 (Lib.countB s sep) s).map Value.string).toArray 9) := Any.strings_Split_shaped Tryd.laysM146 s sep w h hs h1
end Go.Proofs
set_option linter.unusedSimpArgs false
set_option linter.unusedVariables false
namespace Go.Proofs.YtkmohnciiincmaaDoor
open Go.Sx

/-- The parts of a text between the bytes c. -/
def pieces (c : UInt8) : List UInt8 → List (List UInt8)
  | [] => [[]]
  | b :: l => if b = c then [] :: pieces c l else (b :: (pieces c l).headD []) :: (pieces c l).tail

theorem pieces_ne (c : UInt8) (l : List UInt8) : pieces c l ≠ [] := by
  cases l with
  | nil => simp [pieces]
  | cons b l => unfold pieces; split <;> simp
theorem pieces_miss {c : UInt8} : ∀ {l : List UInt8}, Lib.indexByte l c = -1 → pieces c l = [l]
  | [], _ => rfl
  | b :: l, h => by
    unfold Lib.indexByte at h
    split at h
    · cases h
    · rename_i hb
      have hb : b ≠ c := by simpa using hb
      split at h
      · rename_i h2
        have h2 : Lib.indexByte l c = -1 := by simpa using h2
        unfold pieces
        rw [if_neg hb, pieces_miss h2]; rfl
      · have := Lib.indexByte_ge l c; omega
theorem pieces_hit {c : UInt8} : ∀ {l : List UInt8} {i : Nat}, Lib.indexByte l c = i → pieces c l = l.take i :: pieces c (l.drop (i + 1))
  | [], i, h => by unfold Lib.indexByte at h; omega
  | b :: l, i, h => by
    unfold Lib.indexByte at h
    split at h
    · rename_i hb
      have hb : b = c := by simpa using hb
      obtain rfl : i = 0 := by omega
      conv => lhs; unfold pieces
      rw [if_pos hb]; rfl
    · rename_i hb
      have hb : b ≠ c := by simpa using hb
      split at h
      · omega
      · have h0 := Lib.indexByte_ge l c
        rename_i h2
        have h2 : ¬ Lib.indexByte l c = -1 := by simpa using h2
        obtain ⟨k, rfl⟩ : ∃ k, i = k + 1 := ⟨i - 1, by omega⟩
        have ih := pieces_hit (l := l) (i := k) (c := c) (by omega)
        conv => lhs; unfold pieces
        rw [if_neg hb, ih]; rfl

theorem split_one (c : UInt8) : ∀ (n : Nat) (l : List UInt8), l.length ≤ n → Lib.split l [c] = pieces c l := by
  intro n
  induction n with
  | zero =>
    intro l h
    obtain rfl : l = [] := List.eq_nil_of_length_eq_zero (by omega)
    unfold Lib.split
    have h : Lib.index [] [c] = -1 := rfl
    rw [Lib.count_miss h]; rfl
  | succ n ih =>
    intro l h
    unfold Lib.split
    have e := Lib.index_one l c
    by_cases hm : Lib.indexByte l c = -1
    · rw [Lib.count_miss (e.trans hm), pieces_miss hm]; rfl
    · have h0 := Lib.indexByte_ge l c
      obtain ⟨i, hi⟩ : ∃ i : Nat, Lib.indexByte l c = i := ⟨(Lib.indexByte l c).toNat, by omega⟩
      have h1 := (Lib.indexByte_some hi).1
      have hl : i < l.length := by
        rcases Nat.lt_or_ge i l.length with k | k
        · exact k
        · rw [List.getElem?_eq_none k] at h1; cases h1
      have hx : Lib.index l [c] = i := e.trans hi
      rw [Lib.count_hit (by simp) hx, pieces_hit hi, Nat.add_comm]
      unfold Lib.splitK
      rw [if_neg (by rw [hx]; simp), hx]
      have := ih (l.drop (i + 1)) (by rw [List.length_drop]; omega)
      unfold Lib.split at this
      simp only [Int.toNat_natCast, Nat.add_zero, List.length_singleton]
      rw [this]
theorem pieces_count (c : UInt8) (l : List UInt8) : (pieces c l).length = Lib.count l [c] + 1 := by
  rw [← split_one c l.length l (Nat.le_refl _)]
  have h := Lib.splitB_all ⟨⟨[c]⟩⟩ (Nat.le_refl 1) 0 (Lib.countB ⟨⟨l⟩⟩ ⟨⟨[c]⟩⟩) ⟨⟨l⟩⟩ rfl
  have h2 := congrArg List.length (Lib.splitB_data ⟨⟨[c]⟩⟩ 0 (Lib.countB ⟨⟨l⟩⟩ ⟨⟨[c]⟩⟩) ⟨⟨l⟩⟩)
  rw [List.length_map, h] at h2
  exact h2.symm

theorem s_split (s : List UInt8) (hs : s.length < 4294967281) : SCall Tryd.prog 10 [.str s, .str [32]] (.list .str (pieces 32 s)) := by
  refine scall_lib rfl rfl Tryd.func10 (by kernel_rfl) (by kernel_rfl) fun R w vs hR hg hvs => ?_
  obtain ⟨u, us, rfl, h1, u2, us2, rfl, h2, h3⟩ := hvs
  have h1 : u = .string ⟨⟨s⟩⟩ := h1
  have h2 : u2 = .string ⟨⟨[32]⟩⟩ := h2
  have h3 : us2 = [] := h3
  subst h1 h2 h3
  refine Calls.mono (Go.Proofs.Tryd.strings_Split_shaped ⟨⟨s⟩⟩ ⟨⟨[32]⟩⟩ w hg hs (by decide)) fun e w' ⟨he, hw⟩ => ⟨_, he, ?_, ?_⟩
  · rw [hw]; exact (Go.RowKit.Below.refl _ w).alloc (Nat.le_refl _) _
  · subst hw
    have hlen := Lib.splitB_all ⟨⟨[32]⟩⟩ (by decide) 0 (Lib.countB ⟨⟨s⟩⟩ ⟨⟨[32]⟩⟩) ⟨⟨s⟩⟩ rfl
    have hd := Lib.splitB_data ⟨⟨[32]⟩⟩ 0 (Lib.countB ⟨⟨s⟩⟩ ⟨⟨[32]⟩⟩) ⟨⟨s⟩⟩
    have hp : (Lib.splitB ⟨⟨[32]⟩⟩ 0 (Lib.countB ⟨⟨s⟩⟩ ⟨⟨[32]⟩⟩) ⟨⟨s⟩⟩).map (·.data.toList) = pieces 32 s := hd.trans (split_one 32 s.length s (Nat.le_refl _))
    rw [← hlen]
    refine rep_new_strs _ _ _ ?_ ?_ rfl (.inr ⟨Nat.le_refl _, by show w.heap.size < (w.heap.push _).size; simp⟩)
    · rw [← hp]; exact List.length_map ..
    · intro i h h'
      have : (pieces 32 s : List (List UInt8))[i]? = ((Lib.splitB ⟨⟨[32]⟩⟩ 0 (Lib.countB ⟨⟨s⟩⟩ ⟨⟨[32]⟩⟩) ⟨⟨s⟩⟩).map (·.data.toList))[i]? := by rw [hp]
      rw [List.getElem?_map, List.getElem?_eq_getElem h'] at this
      exact Option.some.inj ((List.getElem?_eq_getElem h).symm.trans this)

theorem s_trim (s p : List UInt8) : SCall Tryd.prog 29 [.str s, .str p] (.str (Lib.trimPrefix s p)) := by
  refine scall_lib rfl rfl Tryd.func29 (by kernel_rfl) (by kernel_rfl) fun R w vs hR hg hvs => ?_
  obtain ⟨u, us, rfl, h1, u2, us2, rfl, h2, h3⟩ := hvs
  have h1 : u = .string ⟨⟨s⟩⟩ := h1
  have h2 : u2 = .string ⟨⟨p⟩⟩ := h2
  have h3 : us2 = [] := h3
  subst h1 h2 h3
  refine Calls.mono (Go.Proofs.Tryd.strings_TrimPrefix ⟨⟨s⟩⟩ ⟨⟨p⟩⟩ w) fun e w' ⟨he, hw⟩ => ⟨_, he, ?_, ?_⟩
  · rw [hw]; exact Go.RowKit.Below.refl _ w
  · rfl

theorem s_index (s : List UInt8) (c : Int) : SCall Tryd.prog 13 [.str s, .int .u8 c] (I64 (Lib.indexByte s c.toNat.toUInt8)) := by
  refine scall_lib rfl rfl Tryd.func13 (by kernel_rfl) (by kernel_rfl) fun R w vs hR hg hvs => ?_
  obtain ⟨u, us, rfl, h1, u2, us2, rfl, h2, h3⟩ := hvs
  have h1 : u = .string ⟨⟨s⟩⟩ := h1
  have h2 : u2 = .int .u8 c := h2
  have h3 : us2 = [] := h3
  subst h1 h2 h3
  refine Calls.mono (Go.Proofs.Tryd.strings_IndexByte ⟨⟨s⟩⟩ c w) fun e w' ⟨he, hw⟩ => ⟨_, he, ?_, ?_⟩
  · rw [hw]; exact Go.RowKit.Below.refl _ w
  · rfl

/-- Texts of at most 100000 bytes. -/
def small (s : List UInt8) : Bool := decide ((s.length : Int) ≤ 100000)
theorem small_iff {s : List UInt8} : small s = true ↔ (s.length : Int) ≤ 100000 := by simp [small]
def fTrim : Fact := ⟨29, fun args => match args with
  | [.str s, .str p] => some (.leaf (.str (Lib.trimPrefix s p)))
  | _ => none⟩
def fIndex : Fact := ⟨13, fun args => match args with
  | [.str s, .int .u8 c] => some (.leaf (I64 (Lib.indexByte s c.toNat.toUInt8)))
  | _ => none⟩
def fSplit : Fact := ⟨10, fun args => match args with
  | [.str s, .str p] => some (.req (p == [32]) (.req (small s) (.leaf (.list .str (pieces 32 s)))))
  | _ => none⟩
theorem o_trim : fTrim.ok Tryd.prog := fun args t ht => by
  simp only [fTrim] at ht
  split at ht
  · injection ht with ht; subst ht; exact s_trim _ _
  · cases ht
theorem o_index : fIndex.ok Tryd.prog := fun args t ht => by
  simp only [fIndex] at ht
  split at ht
  · injection ht with ht; subst ht; exact s_index _ _
  · cases ht
theorem o_split : fSplit.ok Tryd.prog := fun args t ht => by
  simp only [fSplit] at ht
  split at ht
  · injection ht with ht; subst ht
    intro hp hs
    have hp := beq_iff_eq.1 hp
    subst hp
    exact s_split _ (by have := small_iff.1 hs; omega)
  · cases ht
/-- What remains of a text behind a minus sign. -/
def tp (s : List UInt8) : List UInt8 := Lib.trimPrefix s [45]
/-- The byte at a place, and the letter. -/
def bt (s : List UInt8) (i : Int) : Int := ↑(s.getD i.toNat 0).toNat
def rn (s : List UInt8) (p : Nat) : Int := ↑(Utf8.decode (ByteArray.mk (Array.mk s)) p).fst
/-- Facts on texts. -/
def factT (f : FuncId) (h : List UInt8 → Tree SV) : Fact := ⟨f, fun args => match args with
  | [.str s] => some (.req (small s) (h s))
  | _ => none⟩
theorem factT_ok {P : Program} {f : FuncId} {h : List UInt8 → Tree SV} (k : ∀ s, small s = true → (h s).says (SCall P f [.str s])) : (factT f h).ok P := fun args t ht => by
  simp only [factT] at ht
  split at ht
  · injection ht with ht; subst ht; exact fun hs => k _ hs
  · cases ht
end Go.Proofs.YtkmohnciiincmaaDoor
