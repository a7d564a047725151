/-
  Sx21: loops over a memory that grows: at the head of a loop the boxes are named anew, in the order in which the slots name them; rows that are handed back become data.
  Sx22: contracts of functions that take pointers and leave the memory alone; facts by their arguments.
  G1: the link between host and printer, in plain words of Lean: bytes, texts, numbers.
  G2: the segments of the small functions. Written by gen.py.
  G3: the small loops of the link: the exclusive or of a text, the bytes that may be sent, where a byte is.
  G4: the segments of the reading of numbers. Written by gen.py.
  G5: numbers are read in two ways, which agree.
  GF: the decimal texts of numbers: both programs write the same.
  G6: the document's reading of numbers, and why both readings agree.
  G7: frames in plain words: cutting, numbers, checksums.
  G8: contracts of the cutting. Written by gen.py.
-/
import Derived.Test.YtibpodgdondakaaZE4
import Derived.Test.YtibpodgdondakaaProg
import Derived.Lib.Bytealg
import Derived.Laws.StandIn
set_option linter.unusedSimpArgs false
set_option linter.unusedVariables false
namespace Go.Sx
open Go.RowKit

theorem idx_get : ∀ {l : List Nat} {k j : Nat}, idx l k = some j → l[j]? = some k
  | x :: l, k, j, h => by
    unfold idx at h
    split at h
    · rename_i hx
      injection h with h; subst h
      simp [Nat.eq_of_beq_eq_true hx]
    · split at h
      · rename_i j' hj
        injection h with h; subst h
        simpa using idx_get hj
      · cases h

mutual
/-- A value with its boxes named anew. -/
def ren (ids : List Nat) : SV → SV
  | .row id => match idx ids id with | some k => .row k | none => .top
  | .arr id o n => match idx ids id with | some k => .arr k o n | none => .top
  | .ptr id o => match idx ids id with | some k => .ptr k o | none => .top
  | .rptr id z i o => match idx ids id with | some k => .rptr k z i o | none => .top
  | .agg cs => .agg (renL ids cs)
  | .tuple cs => .tuple (renL ids cs)
  | .fn f a b => .fn f (renL ids a) (renL ids b)
  | v => v
def renL (ids : List Nat) : List SV → List SV
  | [] => []
  | x :: xs => ren ids x :: renL ids xs
end

def renB (ids : List Nat) : Box → Box
  | .cells cs => .cells (renL ids cs)
  | .rows t l => .rows t l
  | .iter s p => .iter s p

noncomputable def idsM (m : Mem) : List Nat → List Nat → List Nat
  | [], l => l
  | id :: r, l => idsM m r (match m.get id with
    | some (.cells cs) => idsL cs l
    | _ => l)
noncomputable def live (m : Mem) (slots : List SV) : List Nat :=
  let l := idsL slots []
  let l := idsM m l l
  idsM m l l

def nodupB : List Nat → Bool
  | [] => true
  | x :: l => (match idx l x with | some _ => false | none => true) && nodupB l
theorem idx_none : ∀ {l : List Nat} {k : Nat}, idx l k = none → k ∉ l
  | [], _, _ => List.not_mem_nil
  | x :: l, k, h => by
    unfold idx at h
    split at h
    · cases h
    · rename_i hx
      split at h
      · cases h
      · rename_i hj
        intro hm
        cases hm with
        | head => simp at hx
        | tail _ hm => exact idx_none hj hm
theorem nodupB_spec : ∀ {l : List Nat}, nodupB l = true → l.Nodup
  | [], _ => List.nodup_nil
  | x :: l, h => by
    simp only [nodupB, Bool.and_eq_true] at h
    refine List.nodup_cons.2 ⟨?_, nodupB_spec h.2⟩
    have h1 := h.1
    split at h1
    · cases h1
    · rename_i hx; exact idx_none hx

section
variable {R R' : Nat → Prop} {ρ ρ' : Rho} {n n' : Nat} {w : World} {ids : List Nat}
mutual
theorem Rep.ren (hR : ∀ b, R b → R' b) (hρ : ∀ id k, idx ids id = some k → k < n' ∧ ρ' k = ρ id) : ∀ (x : SV) (v : Value), Rep R ρ n w x v → Rep R' ρ' n' w (Go.Sx.ren ids x) v
  | .undef, _, h => h
  | .top, _, h => trivial
  | .int _ _, _, h => h
  | .bool _, _, h => h
  | .str _, _, h => h
  | .nilS, _, h => h
  | .list t l, v, h => RepD.mono (fun b hb => ⟨hR b hb, rfl⟩) (.list t) l [v] h
  | .row id, v, h => by
    unfold Go.Sx.ren
    split
    · rename_i k hk
      obtain ⟨h1, h2⟩ := hρ id k hk
      obtain ⟨_, h⟩ := h
      exact ⟨h1, by rw [h2]; exact h⟩
    · trivial
  | .arr id _ _, v, h => by
    unfold Go.Sx.ren
    split
    · rename_i k hk
      obtain ⟨h1, h2⟩ := hρ id k hk
      exact ⟨h1, by rw [h2]; exact h.2⟩
    · trivial
  | .ptr id _, v, h => by
    unfold Go.Sx.ren
    split
    · rename_i k hk
      obtain ⟨h1, h2⟩ := hρ id k hk
      exact ⟨h1, by rw [h2]; exact h.2⟩
    · trivial
  | .nilP, _, h => h
  | .eptr t l i off, v, h => by
    obtain ⟨b, o, h1, h2, h3⟩ := h
    exact ⟨b, o, h1, h2, h3.mono fun b hb => ⟨hR b hb, rfl⟩⟩
  | .rptr id _ _ _, v, h => by
    unfold Go.Sx.ren
    split
    · rename_i k hk
      obtain ⟨h1, h2⟩ := hρ id k hk
      exact ⟨h1, by rw [h2]; exact h.2⟩
    · trivial
  | .agg cs, v, h => by
    obtain ⟨vs, h1, h2⟩ := h
    exact ⟨vs, h1, RepL.ren hR hρ cs vs h2⟩
  | .tuple cs, v, h => by
    obtain ⟨vs, h1, h2⟩ := h
    exact ⟨vs, h1, RepL.ren hR hρ cs vs h2⟩
  | .fn f first cap, v, h => by
    obtain ⟨vs, us, h1, h2, h3⟩ := h
    exact ⟨vs, us, h1, RepL.ren hR hρ first vs h2, RepL.ren hR hρ cap us h3⟩
  | .raw _, _, h => h
theorem RepL.ren (hR : ∀ b, R b → R' b) (hρ : ∀ id k, idx ids id = some k → k < n' ∧ ρ' k = ρ id) : ∀ (xs : List SV) (vs : List Value), RepL R ρ n w xs vs → RepL R' ρ' n' w (Go.Sx.renL ids xs) vs
  | [], _, h => h
  | x :: xs, vs, h => by
    obtain ⟨v, us, h1, h2, h3⟩ := h
    exact ⟨v, us, h1, Rep.ren hR hρ x v h2, RepL.ren hR hρ xs us h3⟩
end

theorem BoxRel.ren (hR : ∀ b, R b → R' b) (hρ : ∀ id k, idx ids id = some k → k < n' ∧ ρ' k = ρ id) {r : Nat × Nat × Nat} : ∀ (B : Box), BoxRel R ρ n w r B → BoxRel R' ρ' n' w r (renB ids B)
  | .cells cs, h => by
    obtain ⟨arr, e, fr, h1, h2, h3⟩ := h
    exact ⟨arr, e, fr, h1, h2, RepL.ren hR hρ _ _ h3⟩
  | .rows t l, h => by
    obtain ⟨h1, h2, h3⟩ := h
    refine ⟨h1, h2, fun h0 => ?_⟩
    obtain ⟨arr, e, fr, k1, k2, k3, k4⟩ := h3 h0
    refine ⟨arr, e, fr, k1, k2, k3, fun i hi => ?_⟩
    obtain ⟨cs, c1, c2, c3⟩ := k4 i hi
    exact ⟨cs, c1, c2, RepD.mono (fun b hb => ⟨hR b hb, rfl⟩) _ _ _ c3⟩
  | .iter s pos, h => h
end

theorem solid_ren {r : Nat × Nat × Nat} {ids : List Nat} : ∀ (B : Box), solid r (renB ids B) ↔ solid r B
  | .cells _ => Iff.rfl
  | .rows _ _ => Iff.rfl
  | .iter _ _ => Iff.rfl

theorem getD_renL (ids : List Nat) : ∀ (l : List SV) (t : Nat), (renL ids l).getD t .undef = ren ids (l.getD t .undef)
  | [], t => by cases t <;> rfl
  | x :: l, 0 => rfl
  | x :: l, t + 1 => by
    have := getD_renL ids l t
    simpa [renL] using this

theorem nodup_inj : ∀ {l : List Nat}, l.Nodup → ∀ (i j : Nat) (x : Nat), l[i]? = some x → l[j]? = some x → i = j
  | [], _, i, j, x, h, _ => by simp at h
  | y :: l, hn, i, j, x, hi, hj => by
    rw [List.nodup_cons] at hn
    cases i with
    | zero =>
      cases j with
      | zero => rfl
      | succ j =>
        simp at hi hj; subst hi
        exact absurd (List.mem_of_getElem? hj) hn.1
    | succ i =>
      cases j with
      | zero =>
        simp at hi hj; subst hj
        exact absurd (List.mem_of_getElem? hi) hn.1
      | succ j => rw [nodup_inj hn.2 i j x (by simpa using hi) (by simpa using hj)]

/-- A state is also what is left of it, with its boxes named anew. -/
theorem SRel.rename {w0 : World} {R0 : Nat → Prop} {ρ : Rho} {w : World} {fr fr2 : Fr} {m m2 : Mem} {a : Act} {slots : List SV} {ids : List Nat} (h : SRel w0 R0 ρ w fr m a) (hn : ids.Nodup)
    (hc : Canon (renL ids slots) (ids.map fun id => (m.get id).map (renB ids)) fr2 m2) (hlen : slots.length = fr.size) (hs : ∀ (i : Nat) (x : SV), slots[i]? = some x → x = .top ∨ x = fr.get i) :
    SRel w0 R0 (fun k => ρ (ids.getD k 0)) w fr2 m2 a ∧ ∀ b, RO w0 R0 ρ w m b → RO w0 R0 (fun k => ρ (ids.getD k 0)) w m2 b := by
  obtain ⟨h1, h2, h3⟩ := h
  have hg : ∀ k B, m2.get k = some B → ∃ id B0, ids[k]? = some id ∧ m.get id = some B0 ∧ B = renB ids B0 := fun k B hB => by
    rw [hc.box k] at hB
    simp only [List.getElem?_map] at hB
    cases hx : ids[k]? with
    | none => rw [hx] at hB; cases hB
    | some id =>
      rw [hx] at hB
      cases hy : m.get id with
      | none => simp [hy] at hB
      | some B0 => simp [hy] at hB; exact ⟨id, B0, rfl, hy, hB.symm⟩
  have hρk : ∀ k id, ids[k]? = some id → ρ (ids.getD k 0) = ρ id := fun k id hk => by rw [List.getD_eq_getElem?_getD, hk]; rfl
  have hρ : ∀ id k, idx ids id = some k → k < m2.next ∧ (fun k => ρ (ids.getD k 0)) k = ρ id := fun id k hk => by
    have := idx_get hk
    refine ⟨?_, hρk k id this⟩
    rw [hc.next]
    simpa using (List.getElem?_eq_some_iff.1 this).1
  have hro : ∀ b, RO w0 R0 ρ w m b → RO w0 R0 (fun k => ρ (ids.getD k 0)) w m2 b := fun b hb => by
    rcases hb with hb | ⟨k1, k2, k3⟩
    · exact .inl hb
    · refine .inr ⟨k1, k2, fun k B hB hsol => ?_⟩
      obtain ⟨id, B0, g1, g2, rfl⟩ := hg k B hB
      dsimp only at hsol ⊢
      rw [hρk k id g1] at hsol ⊢
      exact k3 id B0 g2 ((solid_ren B0).1 hsol)
  refine ⟨⟨⟨h1.below, fun k B hB => ?_, fun k B hB hsol => ?_, fun k B hB hsol => ?_, fun k k' B B' hB hB' hsol hsol' heq => ?_, fun k B hB => ?_⟩, ⟨?_, fun t => ?_⟩, h3⟩, hro⟩
  · obtain ⟨id, B0, g1, g2, rfl⟩ := hg k B hB
    rw [hc.next]
    simpa using (List.getElem?_eq_some_iff.1 g1).1
  · obtain ⟨id, B0, g1, g2, rfl⟩ := hg k B hB
    rw [hρk k id g1] at hsol ⊢
    exact h1.lo id B0 g2 ((solid_ren B0).1 hsol)
  · obtain ⟨id, B0, g1, g2, rfl⟩ := hg k B hB
    rw [hρk k id g1] at hsol ⊢
    exact h1.hi id B0 g2 ((solid_ren B0).1 hsol)
  · obtain ⟨id, B0, g1, g2, rfl⟩ := hg k B hB
    obtain ⟨id', B0', g1', g2', rfl⟩ := hg k' B' hB'
    rw [hρk k id g1] at hsol heq
    rw [hρk k' id' g1'] at hsol' heq
    have := h1.inj id id' B0 B0' g2 g2' ((solid_ren B0).1 hsol) ((solid_ren B0').1 hsol') heq
    subst this
    exact nodup_inj hn k k' id g1 g1'
  · obtain ⟨id, B0, g1, g2, rfl⟩ := hg k B hB
    rw [hρk k id g1]
    exact BoxRel.ren hro hρ B0 (h1.box id B0 g2)
  · rw [hc.size, show (renL ids slots).length = slots.length from ?_, hlen]
    · exact h2.1
    · clear hc hlen hs
      induction slots with
      | nil => rfl
      | cons x l ih => simp [renL, ih]
  · rw [hc.get t, getD_renL]
    rw [List.getD_eq_getElem?_getD]
    cases hx : slots[t]? with
    | none =>
      have ht : slots.length ≤ t := by simpa using hx
      have : a.tmps.getD t Go.undef = Go.undef := by
        rw [Array.getD_eq_getD_getElem?, Array.getElem?_eq_none (by rw [← h2.1, ← hlen]; exact ht)]
        rfl
      rw [this]; exact rfl
    | some x =>
      rcases hs t x hx with rfl | rfl
      · exact trivial
      · exact Rep.ren hro hρ _ _ (h2.2 t)

/-! ### What is handed back -/

/-! ### Segments and descent -/

noncomputable def segR (E : Env) (n : Nat) (fn : Func) (hint : Ty) (keep : List Item → List Bool) (items : List Item) (p : Plan) (slots : List SV) (boxes : List (Option Box)) : Tree Stop :=
  Fr.make slots.length slots fun fr => memFill boxes ⟨0, .e⟩ fun m => exec E n items p fr m fun o => match o with
    | .ret _ fr m => results E fn m fr fun v => .leaf (.done (give hint m v))
    | .stop items fr m => match live m (viewS fr (keep items) 0) with
      | ids => match nodupB ids with
        | true => .leaf (.at (enter items) fr.size (renL ids (viewS fr (keep items) 0)) (ids.map fun id => (m.get id).map (renB ids)))
        | false => .fail 170

/-- From such a state the code comes to its end, with this value. -/
def RunsR (P : Program) (fn : Func) (v : SV) (items : List Item) (slots : List SV) (boxes : List (Option Box)) : Prop :=
  ∀ fr m, Canon slots boxes fr m → ∀ w0 R0 ρ w a, SRel w0 R0 ρ w fr m a → ∀ (b : Frame) (cs : List Frame), ∃ ρ' w' a' todo u, MRel w0 R0 ρ' w' ⟨0, .e⟩ ∧ a'.defers = [] ∧ (∀ b, RO w0 R0 ρ w m b → RO w0 R0 ρ' w' ⟨0, .e⟩ b ∧ w'.heap[b]? = w.heap[b]?) ∧
    Steps P (lone (b.at a items) cs w) (lone { b.at a' todo with mode := .returning } cs w') ∧ (Go.results fn a'.tmps).run P w' = .ok u w' ∧ Rep (RO w0 R0 ρ' w' ⟨0, .e⟩) ρ' 0 w' v u

theorem runsR_seg {P : Program} {E : Env} (hK : Known P E) {n : Nat} {fn : Func} {hint : Ty} {keep : List Item → List Bool} {items : List Item} {p : Plan} {slots : List SV} {boxes : List (Option Box)} {v : SV} (hvd : v.data = true)
    (h : (segR E n fn hint keep items p slots boxes).holds fun o => match o with
      | .done v' => v' = v
      | .at items' size slots' boxes' => slots'.length = size ∧ RunsR P fn v items' slots' boxes') : RunsR P fn v items slots boxes := by
  intro fr0 m0 hc0 w0 R0 ρ w a hs b cs
  unfold segR at h
  obtain ⟨fr, h1, h2, h3, h4⟩ := make_holds h
  obtain ⟨m, h5, h6, h7, h8⟩ := memFill_holds boxes ⟨0, .e⟩ _ h1 fun id _ => rfl
  have hc : Canon slots boxes fr m := ⟨h2, h4, by rw [h6]; simp, fun id => by simpa using h8 id⟩
  obtain ⟨hs1, hro1⟩ := hc0.swap hc hs
  obtain ⟨out, h9, h10⟩ := exec_ok hK.e hK.s hK.mix n _ _ _ _ _ _ h5
  cases out with
  | ret p' fr' m' =>
    dsimp only at h9
    obtain ⟨v', k1, k2⟩ := results_holds hK.e h9
    obtain rfl : give hint m' v' = v := k1
    obtain ⟨ρ1, w1, a1, todo, g1, g2, g3⟩ := h10 w0 R0 ρ w a hs1 b cs
    obtain ⟨u, r1, r2⟩ := k2 w0 R0 ρ1 w1 a1 g1
    obtain ⟨e1, e2⟩ := g1.1.bare
    exact ⟨ρ1, w1, a1, todo, u, e1, g1.2.2, fun b hb => ⟨e2 b (g2.keep b ((hro1 b).1 hb)).1, (g2.keep b ((hro1 b).1 hb)).2⟩, g3, r1, give_rep g1.1 r2 hvd⟩
  | stop items' fr' m' =>
    dsimp only at h9
    split at h9
    · rename_i hnd
      have h10 : Reach P items fr m (.stop (enter items') fr' m') := by
        refine h10.trans ?_
        unfold enter
        split
        · exact Reach.step fun b a cs w _ => step_loop
        · exact Reach.step fun b a cs w _ => step_inLoop
        · exact Reach.refl _ _ _
      generalize hids : live m' (viewS fr' (keep items') 0) = ids at h9 hnd
      obtain ⟨k1, k5⟩ := h9
      obtain ⟨ρ1, w1, a1, g1, g2, g3⟩ := h10 w0 R0 ρ w a hs1 b cs
      obtain ⟨fr2, m2, hc2⟩ := Canon.of (slots := renL ids (viewS fr' (keep items') 0)) (boxes := ids.map fun id => (m'.get id).map (renB ids))
      have hlr : ∀ l : List SV, (renL ids l).length = l.length := fun l => by
        induction l with
        | nil => rfl
        | cons x l ih => simp [renL, ih]
      obtain ⟨e1, e2⟩ := g1.rename (nodupB_spec hnd) hc2 (by rw [← k1, hlr]) (fun i x hx => by simpa using viewS_get fr' _ 0 i x hx)
      obtain ⟨ρ3, w3, a3, todo, u, q1, q2, q3, q4, q5, q6⟩ := k5 fr2 m2 hc2 w0 R0 _ w1 a1 e1 b cs
      exact ⟨ρ3, w3, a3, todo, u, q1, q2, fun b hb => by
        have s1 := g2.keep b ((hro1 b).1 hb)
        have s2 := q3 b (e2 b s1.1)
        exact ⟨s2.1, s2.2.trans s1.2⟩, g3.trans q4, q5, q6⟩
    · exact h9.elim

/-- Descent: from every state that keeps the law, the code comes to its end. -/
theorem runsR_of {P : Program} {E : Env} (hK : Known P E) {n : Nat} {fn : Func} {hint : Ty} {v : SV} (hvd : v.data = true) {σ : Type} (inv : σ → Prop) (μ : σ → Nat) (keep : List Item → List Bool) (it : σ → List Item) (sl : σ → List SV) (bx : σ → List (Option Box)) (pl : σ → Plan)
    (h : ∀ s, inv s → (segR E n fn hint keep (it s) (pl s) (sl s) (bx s)).holds fun o => match o with
      | .done v' => v' = v
      | .at items' size slots' boxes' => slots'.length = size ∧ ((∃ s', inv s' ∧ μ s' < μ s ∧ items' = it s' ∧ slots' = sl s' ∧ boxes' = bx s') ∨ RunsR P fn v items' slots' boxes')) :
    ∀ s, inv s → RunsR P fn v (it s) (sl s) (bx s) := by
  have : ∀ k s, μ s < k → inv s → RunsR P fn v (it s) (sl s) (bx s) := by
    intro k
    induction k with
    | zero => exact fun s hk => absurd hk (Nat.not_lt_zero _)
    | succ k ih =>
      intro s hk hs
      refine runsR_seg hK hvd (E := E) (n := n) (hint := hint) (keep := keep) (p := pl s) (Tree.holds_mono (fun o ho => ?_) _ (h s hs))
      cases o with
      | done v' => exact ho
      | «at» items' size slots' boxes' =>
        obtain ⟨a6, ho⟩ := ho
        rcases ho with ⟨s', a1, a2, rfl, rfl, rfl⟩ | ho
        · exact ⟨a6, ih s' (by omega) a1⟩
        · exact ⟨a6, ho⟩
  exact fun s hs => this _ s (Nat.lt_succ_self _) hs

/-- A whole call: its own first segment, then descent. -/
theorem scallR_loops {P : Program} {f : FuncId} {args : List SV} {v : SV} (hd : dataL args = true) (hvd : v.data = true)
    (hf : (match P.funcs[f]? with
      | some fn => fn.body.isSome && !(fn.name == "runtime.NumGoroutine") && Nat.ble args.length fn.ntmps
      | none => false) = true)
    (h : RunsR P (fnOf P f) v [.code (bodyOf P f)] (args ++ List.replicate ((fnOf P f).ntmps - args.length) .undef) []) : SCall P f args v := by
  unfold fnOf bodyOf at h
  unfold fnOf at h
  cases hx : P.funcs[f]? with
  | none => rw [hx] at hf; cases hf
  | some fn =>
    rw [hx] at hf h
    dsimp only at hf h
    simp only [Bool.and_eq_true, Bool.not_eq_true'] at hf
    obtain ⟨⟨h1, hn⟩, h3⟩ := hf
    obtain ⟨body, hb⟩ := Option.isSome_iff_exists.mp h1
    rw [hb] at h
    have hl := Nat.le_of_ble_eq_true h3
    intro m w0 R0 ρ w vs hm hvs
    obtain ⟨fr, mc0, hc⟩ := Canon.of (slots := args ++ List.replicate (fn.ntmps - args.length) .undef) (boxes := [])
    have hc' : Canon (args ++ List.replicate (fn.ntmps - args.length) .undef) [] fr ⟨0, .e⟩ := ⟨hc.size, hc.get, rfl, fun id => rfl⟩
    rw [callFunc_enter hx hb hn]
    obtain ⟨o1, o2⟩ := own_mem hm ρ
    have hfr := frame_rel (size := fn.ntmps) (by rw [hc.size]; simp; omega) (.inr hl) (fun t => by rw [hc.get, pad_get]) (RepL.data (R' := RO w (RO w0 R0 ρ w m) ρ w ⟨0, .e⟩) (ρ' := ρ) (n' := 0) o2 args vs hd hvs)
    intro cs
    let b : Frame := { (default : Frame) with fn := f, kind := .normal }
    have henter : Frame.enter P f vs.toArray .normal = b.at { tmps := vs.toArray ++ Array.replicate (fn.ntmps - vs.toArray.size) Go.undef, defers := [] } [.code body] := by
      simp [Frame.enter, Frame.at, hx, hb, b]
    obtain ⟨ρ', w', a', todo, u, q1, q2, q3, q4, q5, q6⟩ := h fr ⟨0, .e⟩ hc' w (RO w0 R0 ρ w m) ρ w { tmps := vs.toArray ++ Array.replicate (fn.ntmps - vs.toArray.size) Go.undef, defers := [] } ⟨o1, hfr, rfl⟩ b cs
    have hst := Hand.start hm q1
    obtain ⟨k1, k2⟩ := hst.finish hm q1
    exact ⟨.returned u, w', _, ⟨u, rfl, ρ, k1, k2, Rep.data (fun b hb => hst.ro b (.inr hb)) v u hvd q6⟩, by rw [henter]; exact q4, rfl, rfl, q2, rfl, fn, hx, q5⟩
end Go.Sx
set_option linter.unusedSimpArgs false
set_option linter.unusedVariables false
namespace Go.Sx
open Go.RowKit

/-- A call in a memory that is not looked at. -/
noncomputable def execAt (E : Env) (n : Nat) (f : FuncId) (args : List SV) (p : Plan) (m : Mem) : Tree (SV × Mem) :=
  match E.fn f with
  | some fn => match fn.body with
    | some body => match fn.name == "runtime.NumGoroutine" with
      | false => Fr.make fn.ntmps args fun fr => exec E n [.code body] p fr m fun o => match o with
        | .ret _ fr m => results E fn m fr fun v => .leaf (v, m)
        | .stop .. => .fail 142
      | true => .fail 143
    | none => .fail 144
  | none => .fail 145

theorem scall_at {P : Program} {E : Env} (hK : Known P E) {n : Nat} {f : FuncId} {args : List SV} {p : Plan} {v : SV} (h : ∀ m, (execAt E n f args p m).holds fun x => x = (v, m)) : SCall P f args v := by
  intro m w0 R0 ρ w vs hm hvs
  have h := h m
  unfold execAt at h
  split at h
  · rename_i fn hfn
    have hf := hK.e.fn f fn hfn
    split at h
    · rename_i body hb
      split at h
      · rename_i hn
        obtain ⟨fr, h1, h2, h3, h4⟩ := make_holds h
        obtain ⟨out, h5, h6⟩ := exec_ok hK.e hK.s hK.mix n _ _ _ _ _ _ h1
        cases out with
        | stop it fr' m' => exact h5.elim
        | ret p' fr' mc =>
          dsimp only at h5
          obtain ⟨v', h7, h8⟩ := results_holds hK.e h5
          have h7 : (v', mc) = (v, m) := h7
          injection h7 with e1 e2
          subst e1 e2
          rw [callFunc_enter hf hb hn]
          exact calls_of_reach hf hb h6 h8 hm (frame_rel h2 h3 h4 hvs)
      · exact h.elim
    · exact h.elim
  · exact h.elim

/-- The one leaf of a tree with nothing unknown. -/
def Tree.closed {α : Type} : Tree α → Option α
  | .leaf a => some a
  | .req b t => match b with
    | true => t.closed
    | false => none
  | .node b t f => match b with
    | true => t.closed
    | false => f.closed
  | .fail _ => none
theorem Tree.closed_holds {α : Type} {v : α} : ∀ (t : Tree α), t.closed = some v → t.holds fun x => x = v
  | .leaf a, h => by injection h
  | .req b t, h => by
    cases b with
    | false => cases h
    | true => exact ⟨rfl, closed_holds t h⟩
  | .node b t f, h => by
    cases b with
    | false => exact ⟨fun hb => (by cases hb), fun _ => closed_holds f h⟩
    | true => exact ⟨fun _ => closed_holds t h, fun hb => (by cases hb)⟩
  | .fail _, h => by cases h
theorem scall_closed {P : Program} (hmix : P.follows .mixedOrders = true) (l : List Fact) (hl : allOk P l) (n : Nat) (p : Plan) {f : FuncId} {args : List SV} {v : SV}
    (ht : (execFn (Env.of P (sumOf l)) n f args p).vals.closed = some v) (hd : dataL args = true) (hv : v.data = true) : SCall P f args v :=
  scall_v hmix l hl n p rfl (Tree.closed_holds _ ht) hd hv

/-! ### Facts by their arguments -/

def I64 (n : Int) : SV := .int .i64 n
def fact0 (f : FuncId) (t : Tree SV) : Fact := ⟨f, fun args => match args with
  | [] => some t
  | _ => none⟩
theorem fact0_ok {P : Program} {f : FuncId} {t : Tree SV} (k : t.says (SCall P f [])) : (fact0 f t).ok P := fun args t' ht => by
  simp only [fact0] at ht
  split at ht
  · injection ht with ht; subst ht; exact k
  · cases ht
def factI (f : FuncId) (h : Int → Tree SV) : Fact := ⟨f, fun args => match args with
  | [.int .i64 a] => some (h a)
  | _ => none⟩
theorem factI_ok {P : Program} {f : FuncId} {h : Int → Tree SV} (k : ∀ a, (h a).says (SCall P f [I64 a])) : (factI f h).ok P := fun args t ht => by
  simp only [factI] at ht
  split at ht
  · injection ht with ht; subst ht; exact k _
  · cases ht
def factII (f : FuncId) (h : Int → Int → Tree SV) : Fact := ⟨f, fun args => match args with
  | [.int .i64 a, .int .i64 b] => some (h a b)
  | _ => none⟩
theorem factII_ok {P : Program} {f : FuncId} {h : Int → Int → Tree SV} (k : ∀ a b, (h a b).says (SCall P f [I64 a, I64 b])) : (factII f h).ok P := fun args t ht => by
  simp only [factII] at ht
  split at ht
  · injection ht with ht; subst ht; exact k _ _
  · cases ht
def factIII (f : FuncId) (h : Int → Int → Int → Tree SV) : Fact := ⟨f, fun args => match args with
  | [.int .i64 a, .int .i64 b, .int .i64 c] => some (h a b c)
  | _ => none⟩
theorem factIII_ok {P : Program} {f : FuncId} {h : Int → Int → Int → Tree SV} (k : ∀ a b c, (h a b c).says (SCall P f [I64 a, I64 b, I64 c])) : (factIII f h).ok P := fun args t ht => by
  simp only [factIII] at ht
  split at ht
  · injection ht with ht; subst ht; exact k _ _ _
  · cases ht
def factS (f : FuncId) (h : List UInt8 → Tree SV) : Fact := ⟨f, fun args => match args with
  | [.str a] => some (h a)
  | _ => none⟩
theorem factS_ok {P : Program} {f : FuncId} {h : List UInt8 → Tree SV} (k : ∀ a, (h a).says (SCall P f [.str a])) : (factS f h).ok P := fun args t ht => by
  simp only [factS] at ht
  split at ht
  · injection ht with ht; subst ht; exact k _
  · cases ht

/-! ### Plans of segments -/

def keepS (n : Nat) (ks : List Nat) : List Item → List Bool := fun _ => (List.range n).map fun i => ks.any fun j => Nat.beq i j
def slotsS (n : Nat) (ks : List (Nat × SV)) : List SV := (List.range n).map fun i => (ks.lookup i).getD .top
theorem slotsS_len (n : Nat) (ks : List (Nat × SV)) : (slotsS n ks).length = n := by simp [slotsS]
theorem renL_len (ids : List Nat) (l : List SV) : (renL ids l).length = l.length := by
  induction l with
  | nil => rfl
  | cons x l ih => simp [renL, ih]
noncomputable def startS (P : Program) (f : Nat) (args : List SV) : List SV := args ++ List.replicate ((fnOf P f).ntmps - args.length) .undef
noncomputable def codeS (P : Program) (f : Nat) : List Item := [.code (bodyOf P f)]
end Go.Sx
set_option linter.unusedSimpArgs false
set_option linter.unusedVariables false
namespace Go.Proofs.Ytibpodgdondakaa
open Go.Sx

theorem mix : Try.prog.follows .mixedOrders = true := by kernel_rfl
theorem hK {l : List Fact} (h : allOk Try.prog l) : Known Try.prog (Env.of Try.prog (sumOf l)) := known_of mix (sumOf_ok l h.all)

/-- A text of bearable length. -/
def small (s : List UInt8) : Bool := decide ((s.length : Int) ≤ 100000)

/-- Facts on texts. -/
def factL (f : FuncId) (h : List UInt8 → Tree SV) : Fact := ⟨f, fun args => match args with
  | [.str a] => some (.req (small a) (h a))
  | _ => none⟩
theorem factL_ok {P : Program} {f : FuncId} {h : List UInt8 → Tree SV} (k : ∀ a, small a = true → (h a).says (SCall P f [.str a])) : (factL f h).ok P := fun args t ht => by
  simp only [factL] at ht
  split at ht
  · injection ht with ht; subst ht; exact k _
  · cases ht
def factLI (f : FuncId) (h : List UInt8 → Int → Tree SV) : Fact := ⟨f, fun args => match args with
  | [.str a, .int .i64 n] => some (.req (small a) (h a n))
  | _ => none⟩
theorem factLI_ok {P : Program} {f : FuncId} {h : List UInt8 → Int → Tree SV} (k : ∀ a n, small a = true → (h a n).says (SCall P f [.str a, I64 n])) : (factLI f h).ok P := fun args t ht => by
  simp only [factLI] at ht
  split at ht
  · injection ht with ht; subst ht; exact k _ _
  · cases ht
def factLB (f : FuncId) (h : List UInt8 → Int → Tree SV) : Fact := ⟨f, fun args => match args with
  | [.str a, .int .u8 n] => some (.req (small a) (h a n))
  | _ => none⟩
theorem factLB_ok {P : Program} {f : FuncId} {h : List UInt8 → Int → Tree SV} (k : ∀ a n, small a = true → (h a n).says (SCall P f [.str a, .int .u8 n])) : (factLB f h).ok P := fun args t ht => by
  simp only [factLB] at ht
  split at ht
  · injection ht with ht; subst ht; exact k _ _
  · cases ht

/-- The byte at a place, and the letter. -/
def bt (s : List UInt8) (i : Int) : Int := ↑(s.getD i.toNat 0).toNat
def rn (s : List UInt8) (p : Nat) : Int := ↑(Utf8.decode (ByteArray.mk (Array.mk s)) p).fst

/-- Where a byte is. -/
def ix (s : List UInt8) (c : UInt8) : Int := Lib.indexByte s c
theorem s_ix (s : List UInt8) (c : Int) : SCall Try.prog 74 [.str s, .int .u8 c] (I64 (ix s c.toNat.toUInt8)) := by
  intro m w0 R0 ρ w vs hm hvs
  obtain ⟨u, us, rfl, h1, u2, us2, rfl, h2, h3⟩ := hvs
  rw [show u = _ from h1, show u2 = _ from h2, show us2 = [] from h3]
  have e6 := run_callFunc_indexByte (P := Try.prog) Try.func74 (by kernel_rfl) (by kernel_rfl) (by kernel_rfl) (by kernel_rfl) #[.string ⟨⟨s⟩⟩, .int .u8 c] w
  rw [Lib.run_indexByteString] at e6
  have e7 : (callFunc 74 [Value.string ⟨⟨s⟩⟩, Value.int .u8 c].toArray).run Try.prog w = .ok (.value (.int .i64 (ix s c.toNat.toUInt8))) w := e6
  rw [e7]
  exact OpOut.same hm rfl
def fIx : Fact := ⟨74, fun args => match args with
  | [.str a, .int .u8 n] => some (.leaf (I64 (ix a n.toNat.toUInt8)))
  | _ => none⟩
theorem o_ix : fIx.ok Try.prog := fun args t ht => by
  simp only [fIx] at ht
  split at ht
  · injection ht with ht; subst ht; exact s_ix _ _
  · cases ht
end Go.Proofs.Ytibpodgdondakaa
set_option linter.unusedSimpArgs false
set_option linter.unusedVariables false
set_option maxRecDepth 100000
namespace Go.Proofs.Ytibpodgdondakaa
open Go.Sx
def xor0_p : Plan := .all
noncomputable def xor0_t (s : List UInt8) : Tree Stop :=
   .leaf (Stop.at (loopOf Try.prog 48 0) 18 (slotsS 18 [(0, SV.str s), (3, SV.int IntKind.u8 0), (6, I64 (↑s.length : Int)), (7, I64 0)]) [])
theorem xor0 (s : List UInt8) : segR (Env.of Try.prog (sumOf [])) 1000 (fnOf Try.prog 48) .unit (keepS 18 [0, 3, 6, 7]) (codeS Try.prog 48) xor0_p (startS Try.prog 48 [.str s]) [] = xor0_t s := by kernel_rfl
def xor1_p : Plan := .fork (.all) (.all)
noncomputable def xor1_t (s : List UInt8) (x k i : Int) : Tree Stop :=
   .node (decide (i < k))
 (.req (decide (0 ≤ i) && decide (i < (↑s.length : Int))) (.leaf (Stop.at (loopOf Try.prog 48 0) 18 (slotsS 18 [(0, SV.str s), (3, SV.int IntKind.u8 (IntKind.u8.wrap ↑(BitVec.ofInt 8 x ^^^ BitVec.ofInt 8 (bt s i)).toNat)), (6, I64 k), (7, I64 (IntKind.i64.wrap (i + 1)))]) [])))
 (.leaf (Stop.done (I64 (IntKind.i64.wrap x))))
theorem xor1 (s : List UInt8) (x k i : Int) : segR (Env.of Try.prog (sumOf [])) 1000 (fnOf Try.prog 48) .unit (keepS 18 [0, 3, 6, 7]) (loopOf Try.prog 48 0) xor1_p (slotsS 18 [(0, .str s), (3, .int .u8 x), (6, I64 k), (7, I64 i)]) [] = xor1_t s x k i := by kernel_rfl
def xorR0_p : Plan := .all
noncomputable def xorR0_t (s : List UInt8) : Tree Stop :=
   .leaf (Stop.at (loopOf Try.prog 52 0) 18 (slotsS 18 [(0, SV.str s), (3, I64 0), (4, I64 0)]) [])
theorem xorR0 (s : List UInt8) : segR (Env.of Try.prog (sumOf [])) 1000 (fnOf Try.prog 52) .unit (keepS 18 [0, 3, 4]) (codeS Try.prog 52) xorR0_p (startS Try.prog 52 [.str s]) [] = xorR0_t s := by kernel_rfl
def xorR1_p : Plan := .fork (.all) (.all)
noncomputable def xorR1_t (s : List UInt8) (x i : Int) : Tree Stop :=
   .node (decide (i < (↑s.length : Int)))
 (.req (decide (0 ≤ i) && decide (i < (↑s.length : Int))) (.leaf (Stop.at (loopOf Try.prog 52 0) 18 (slotsS 18 [(0, SV.str s), (3, I64 (IntKind.i64.wrap ↑(BitVec.ofInt 64 x ^^^ BitVec.ofInt 64 (IntKind.i64.wrap (bt s i))).toNat)), (4, I64 (IntKind.i64.wrap (i + 1)))]) [])))
 (.leaf (Stop.done (I64 x)))
theorem xorR1 (s : List UInt8) (x i : Int) : segR (Env.of Try.prog (sumOf [])) 1000 (fnOf Try.prog 52) .unit (keepS 18 [0, 3, 4]) (loopOf Try.prog 52 0) xorR1_p (slotsS 18 [(0, .str s), (3, I64 x), (4, I64 i)]) [] = xorR1_t s x i := by kernel_rfl
def plain0_p : Plan := .all
noncomputable def plain0_t (s : List UInt8) : Tree Stop :=
   .leaf (Stop.at (loopOf Try.prog 37 0) 26 (slotsS 26 [(0, SV.str s), (5, I64 (↑s.length : Int)), (6, I64 0)]) [])
theorem plain0 (s : List UInt8) : segR (Env.of Try.prog (sumOf [])) 1000 (fnOf Try.prog 37) .unit (keepS 26 [0, 5, 6]) (codeS Try.prog 37) plain0_p (startS Try.prog 37 [.str s]) [] = plain0_t s := by kernel_rfl
def plain1_p : Plan := .fork (.fork (.lit (.lit (.lit (.lit (.lit (.lit (.lit (.lit (.lit (.lit (.all))))))))))) (.lit (.lit (.lit (.lit (.fork (.lit (.lit (.lit (.lit (.lit (.all)))))) (.lit (.lit (.lit (.lit (.fork (.all) (.all)))))))))))) (.all)
noncomputable def plain1_t (s : List UInt8) (k i : Int) : Tree Stop :=
   .node (decide (i < k))
 (.req (decide (0 ≤ i) && decide (i < (↑s.length : Int))) (.node (decide ((bt s i) < 32))
   (.leaf (Stop.done (SV.bool false)))
   (.req (decide (0 ≤ i) && decide (i < (↑s.length : Int))) (.node (decide ((bt s i) > 126))
     (.leaf (Stop.done (SV.bool false)))
     (.req (decide (0 ≤ i) && decide (i < (↑s.length : Int))) (.node ((bt s i) == 42)
       (.leaf (Stop.done (SV.bool false)))
       (.leaf (Stop.at (loopOf Try.prog 37 0) 26 (slotsS 26 [(0, SV.str s), (5, I64 k), (6, I64 (IntKind.i64.wrap (i + 1)))]) []))))))))
 (.leaf (Stop.done (SV.bool true)))
theorem plain1 (s : List UInt8) (k i : Int) : segR (Env.of Try.prog (sumOf [])) 1000 (fnOf Try.prog 37) .unit (keepS 26 [0, 5, 6]) (loopOf Try.prog 37 0) plain1_p (slotsS 26 [(0, .str s), (5, I64 k), (6, I64 i)]) [] = plain1_t s k i := by kernel_rfl
def plainR0_p : Plan := .all
noncomputable def plainR0_t (s : List UInt8) : Tree Stop :=
   .leaf (Stop.at (loopOf Try.prog 40 0) 26 (slotsS 26 [(0, SV.str s), (3, I64 0)]) [])
theorem plainR0 (s : List UInt8) : segR (Env.of Try.prog (sumOf [])) 1000 (fnOf Try.prog 40) .unit (keepS 26 [0, 3]) (codeS Try.prog 40) plainR0_p (startS Try.prog 40 [.str s]) [] = plainR0_t s := by kernel_rfl
def plainR1_p : Plan := .fork (.fork (.lit (.lit (.lit (.lit (.lit (.lit (.lit (.lit (.lit (.lit (.all))))))))))) (.lit (.lit (.lit (.lit (.fork (.lit (.lit (.lit (.lit (.lit (.all)))))) (.lit (.lit (.lit (.lit (.fork (.all) (.all)))))))))))) (.all)
noncomputable def plainR1_t (s : List UInt8) (i : Int) : Tree Stop :=
   .node (decide (i < (↑s.length : Int)))
 (.req (decide (0 ≤ i) && decide (i < (↑s.length : Int))) (.node (decide ((bt s i) < 32))
   (.leaf (Stop.done (SV.bool false)))
   (.req (decide (0 ≤ i) && decide (i < (↑s.length : Int))) (.node (decide ((bt s i) > 126))
     (.leaf (Stop.done (SV.bool false)))
     (.req (decide (0 ≤ i) && decide (i < (↑s.length : Int))) (.node ((bt s i) == 42)
       (.leaf (Stop.done (SV.bool false)))
       (.leaf (Stop.at (loopOf Try.prog 40 0) 26 (slotsS 26 [(0, SV.str s), (3, I64 (IntKind.i64.wrap (i + 1)))]) []))))))))
 (.leaf (Stop.done (SV.bool true)))
theorem plainR1 (s : List UInt8) (i : Int) : segR (Env.of Try.prog (sumOf [])) 1000 (fnOf Try.prog 40) .unit (keepS 26 [0, 3]) (loopOf Try.prog 40 0) plainR1_p (slotsS 26 [(0, .str s), (3, I64 i)]) [] = plainR1_t s i := by kernel_rfl
def find0_p : Plan := .all
noncomputable def find0_t (s : List UInt8) (c : Int) : Tree Stop :=
   .leaf (Stop.at (loopOf Try.prog 50 0) 18 (slotsS 18 [(0, SV.str s), (1, SV.int IntKind.u8 c), (5, I64 0)]) [])
theorem find0 (s : List UInt8) (c : Int) : segR (Env.of Try.prog (sumOf [])) 1000 (fnOf Try.prog 50) .unit (keepS 18 [0, 1, 5]) (codeS Try.prog 50) find0_p (startS Try.prog 50 [.str s, .int .u8 c]) [] = find0_t s c := by kernel_rfl
def find1_p : Plan := .fork (.fork (.all) (.all)) (.all)
noncomputable def find1_t (s : List UInt8) (c i : Int) : Tree Stop :=
   .node (decide (i < (↑s.length : Int)))
 (.req (decide (0 ≤ i) && decide (i < (↑s.length : Int))) (.node ((bt s i) == c)
   (.leaf (Stop.done (I64 i)))
   (.leaf (Stop.at (loopOf Try.prog 50 0) 18 (slotsS 18 [(0, SV.str s), (1, SV.int IntKind.u8 c), (5, I64 (IntKind.i64.wrap (i + 1)))]) []))))
 (.leaf (Stop.done (I64 (-1))))
theorem find1 (s : List UInt8) (c i : Int) : segR (Env.of Try.prog (sumOf [])) 1000 (fnOf Try.prog 50) .unit (keepS 18 [0, 1, 5]) (loopOf Try.prog 50 0) find1_p (slotsS 18 [(0, .str s), (1, .int .u8 c), (5, I64 i)]) [] = find1_t s c i := by kernel_rfl
def fmt0_p : Plan := .fork (.all) (.all)
noncomputable def fmt0_t (n : Int) : Tree Stop :=
   .node (decide (n < 0))
 (.req (true) (.req (true) (.leaf (Stop.at (loopOf Try.prog 39 0) 58 (slotsS 58 [(0, I64 n), (3, SV.int IntKind.u64 (IntKind.u64.wrap ((IntKind.u64.wrap (0 - IntKind.u64.wrap n)).tdiv 10))), (4, SV.arr 0 0 1), (5, SV.undef), (6, SV.undef)]) [some (Box.cells [SV.int IntKind.u8 (IntKind.u8.wrap (IntKind.u64.wrap (48 + (IntKind.u64.wrap (0 - IntKind.u64.wrap n)).tmod 10)))])]))))
 (.req (true) (.req (true) (.leaf (Stop.at (loopOf Try.prog 39 0) 58 (slotsS 58 [(0, I64 n), (3, SV.int IntKind.u64 (IntKind.u64.wrap ((IntKind.u64.wrap n).tdiv 10))), (4, SV.arr 0 0 1), (5, SV.undef), (6, SV.undef)]) [some (Box.cells [SV.int IntKind.u8 (IntKind.u8.wrap (IntKind.u64.wrap (48 + (IntKind.u64.wrap n).tmod 10)))])]))))
theorem fmt0 (n : Int) : segR (Env.of Try.prog (sumOf [])) 1000 (fnOf Try.prog 39) .unit (keepS 58 [0,3,4,5,6]) (codeS Try.prog 39) fmt0_p (startS Try.prog 39 [I64 n]) [] = fmt0_t n := by kernel_rfl
def fmt1a_p : Plan := .fork (.lit (.all)) (.fork (.lit (.all)) (.all))
noncomputable def fmt1a_t (n u d : Int) : Tree Stop :=
   .node (decide (u > 0))
 (.req (true) (.req (decide (([d].length + [IntKind.u8.wrap (IntKind.u64.wrap (48 + u.tmod 10))].length) * 1 ≤ 140737488355328)) (.req (true) (.leaf (Stop.at (loopOf Try.prog 39 0) 58 (slotsS 58 [(0, I64 n), (3, SV.int IntKind.u64 (IntKind.u64.wrap (u.tdiv 10))), (4, SV.row 0), (5, SV.undef), (6, SV.undef)]) [some (Box.rows (Ty.int IntKind.u8) ([d] ++ [IntKind.u8.wrap (IntKind.u64.wrap (48 + u.tmod 10))]))])))))
 (.node (decide (n < 0))
  (.req (decide (([d].length + 1) * 1 ≤ 140737488355328)) (.leaf (Stop.at (loopOf Try.prog 39 1) 58 (slotsS 58 [(0, I64 n), (3, SV.int IntKind.u64 u), (4, SV.row 0), (5, I64 0), (6, I64 (IntKind.i64.wrap (↑([d] ++ [45]).length - 1)))]) [some (Box.rows (Ty.int IntKind.u8) ([d] ++ [45]))])))
  (.leaf (Stop.at (loopOf Try.prog 39 1) 58 (slotsS 58 [(0, I64 n), (3, SV.int IntKind.u64 u), (4, SV.arr 0 0 1), (5, I64 0), (6, I64 0)]) [some (Box.cells [SV.int IntKind.u8 d])])))
theorem fmt1a (n u d : Int) : segR (Env.of Try.prog (sumOf [])) 1000 (fnOf Try.prog 39) .unit (keepS 58 [0,3,4,5,6]) (loopOf Try.prog 39 0) fmt1a_p (slotsS 58 [(0, I64 n), (3, .int .u64 u), (4, .arr 0 0 1), (5, .undef), (6, .undef)]) [some (.cells [.int .u8 d])] = fmt1a_t n u d := by kernel_rfl
def fmt1_p : Plan := .fork (.all) (.fork (.all) (.all))
noncomputable def fmt1_t (n u : Int) (l : List Int) : Tree Stop :=
   .node (decide (u > 0))
 (.req (true) (.req (decide ((l.length + [IntKind.u8.wrap (IntKind.u64.wrap (48 + u.tmod 10))].length) * 1 ≤ 140737488355328)) (.req (true) (.leaf (Stop.at (loopOf Try.prog 39 0) 58 (slotsS 58 [(0, I64 n), (3, SV.int IntKind.u64 (IntKind.u64.wrap (u.tdiv 10))), (4, SV.row 0), (5, SV.undef), (6, SV.undef)]) [some (Box.rows (Ty.int IntKind.u8) (l ++ [IntKind.u8.wrap (IntKind.u64.wrap (48 + u.tmod 10))]))])))))
 (.node (decide (n < 0))
  (.req (decide ((l.length + 1) * 1 ≤ 140737488355328)) (.leaf (Stop.at (loopOf Try.prog 39 1) 58 (slotsS 58 [(0, I64 n), (3, SV.int IntKind.u64 u), (4, SV.row 0), (5, I64 0), (6, I64 (IntKind.i64.wrap (↑(l ++ [45]).length - 1)))]) [some (Box.rows (Ty.int IntKind.u8) (l ++ [45]))])))
  (.leaf (Stop.at (loopOf Try.prog 39 1) 58 (slotsS 58 [(0, I64 n), (3, SV.int IntKind.u64 u), (4, SV.row 0), (5, I64 0), (6, I64 (IntKind.i64.wrap (↑l.length - 1)))]) [some (Box.rows (Ty.int IntKind.u8) l)])))
theorem fmt1 (n u : Int) (l : List Int) : segR (Env.of Try.prog (sumOf [])) 1000 (fnOf Try.prog 39) .unit (keepS 58 [0,3,4,5,6]) (loopOf Try.prog 39 0) fmt1_p (slotsS 58 [(0, I64 n), (3, .int .u64 u), (4, .row 0), (5, .undef), (6, .undef)]) [some (.rows (.int .u8) l)] = fmt1_t n u l := by kernel_rfl
def fmt2_p : Plan := .fork (.all) (.all)
noncomputable def fmt2_t (n u : Int) (l : List Int) (i k : Int) : Tree Stop :=
   .node (decide (i < k))
 (.req (decide (0 ≤ k) && decide (k < ↑l.length)) (.req (decide (k.toNat < l.length)) (.req (decide (0 ≤ i) && decide (i < ↑l.length)) (.req (decide (i.toNat < l.length)) (.req (decide (0 ≤ i) && decide (i < ↑l.length)) (.req (decide (i.toNat < l.length)) (.req (decide (0 ≤ k) && decide (k < ↑(l.set i.toNat (l.getD k.toNat 0)).length)) (.req (decide (k.toNat < (l.set i.toNat (l.getD k.toNat 0)).length)) (.leaf (Stop.at (loopOf Try.prog 39 1) 58 (slotsS 58 [(0, I64 n), (3, SV.int IntKind.u64 u), (4, SV.row 0), (5, I64 (IntKind.i64.wrap (i + 1))), (6, I64 (IntKind.i64.wrap (k - 1)))]) [some (Box.rows (Ty.int IntKind.u8) ((l.set i.toNat (l.getD k.toNat 0)).set k.toNat (l.getD i.toNat 0)))]))))))))))
 (.leaf (Stop.done (SV.str (List.map (fun n => UInt8.ofNat (Int.toNat n)) l))))
theorem fmt2 (n u : Int) (l : List Int) (i k : Int) : segR (Env.of Try.prog (sumOf [])) 1000 (fnOf Try.prog 39) .unit (keepS 58 [0,3,4,5,6]) (loopOf Try.prog 39 1) fmt2_p (slotsS 58 [(0, I64 n), (3, .int .u64 u), (4, .row 0), (5, I64 i), (6, I64 k)]) [some (.rows (.int .u8) l)] = fmt2_t n u l i k := by kernel_rfl
def fmt2a_p : Plan := .lit (.all)
noncomputable def fmt2a_t (n u d : Int) : Tree Stop :=
   .leaf (Stop.done (SV.str (List.map (fun n => UInt8.ofNat (Int.toNat n)) [d])))
theorem fmt2a (n u d : Int) : segR (Env.of Try.prog (sumOf [])) 1000 (fnOf Try.prog 39) .unit (keepS 58 [0,3,4,5,6]) (loopOf Try.prog 39 1) fmt2a_p (slotsS 58 [(0, I64 n), (3, .int .u64 u), (4, .arr 0 0 1), (5, I64 0), (6, I64 0)]) [some (.cells [.int .u8 d])] = fmt2a_t n u d := by kernel_rfl
def fmtR0_p : Plan := .fork (.all) (.all)
noncomputable def fmtR0_t (n : Int) : Tree Stop :=
   .node (decide (n < 0))
 (.leaf (Stop.at (loopOf Try.prog 42 0) 26 (slotsS 26 [(0, I64 n), (3, SV.str []), (4, SV.int IntKind.u64 (IntKind.u64.wrap (0 - IntKind.u64.wrap n))), (5, SV.bool true)]) []))
 (.leaf (Stop.at (loopOf Try.prog 42 0) 26 (slotsS 26 [(0, I64 n), (3, SV.str []), (4, SV.int IntKind.u64 (IntKind.u64.wrap n)), (5, SV.bool true)]) []))
theorem fmtR0 (n : Int) : segR (Env.of Try.prog (sumOf [])) 1000 (fnOf Try.prog 42) .unit (keepS 26 [0, 3, 4, 5]) (codeS Try.prog 42) fmtR0_p (startS Try.prog 42 [I64 n]) [] = fmtR0_t n := by kernel_rfl
def fmtR1_p : Plan := .fork (.all) (.fork (.all) (.all))
noncomputable def fmtR1_t (n : Int) (s : List UInt8) (u : Int) (b : Bool) : Tree Stop :=
   .node (b)
 (.req (true) (.req (decide ((((List.map (fun n => UInt8.ofNat (Int.toNat n)) [IntKind.u8.wrap (IntKind.u64.wrap (48 + u.tmod 10))]).length + s.length : Nat) : Int) ≤ (9223372036854775807 : Int))) (.req (true) (.leaf (Stop.at (loopOf Try.prog 42 0) 26 (slotsS 26 [(0, I64 n), (3, SV.str (List.map (fun n => UInt8.ofNat (Int.toNat n)) [IntKind.u8.wrap (IntKind.u64.wrap (48 + u.tmod 10))] ++ s)), (4, SV.int IntKind.u64 (IntKind.u64.wrap (u.tdiv 10))), (5, SV.bool (decide (IntKind.u64.wrap (u.tdiv 10) > 0)))]) [])))))
 (.node (decide (n < 0))
  (.req (decide (((1 + s.length : Nat) : Int) ≤ (9223372036854775807 : Int))) (.leaf (Stop.done (SV.str ([45] ++ s)))))
  (.leaf (Stop.done (SV.str s))))
theorem fmtR1 (n : Int) (s : List UInt8) (u : Int) (b : Bool) : segR (Env.of Try.prog (sumOf [])) 1000 (fnOf Try.prog 42) .unit (keepS 26 [0, 3, 4, 5]) (loopOf Try.prog 42 0) fmtR1_p (slotsS 26 [(0, I64 n), (3, .str s), (4, .int .u64 u), (5, .bool b)]) [] = fmtR1_t n s u b := by kernel_rfl
def num0_p : Plan := .fork (.lit (.lit (.lit (.lit (.lit (.lit (.all))))))) (.lit (.lit (.lit (.fork (.lit (.lit (.lit (.lit (.lit (.fork (.all) (.all))))))) (.lit (.lit (.lit (.lit (.lit (.lit (.all)))))))))))
noncomputable def num0_t (s : List UInt8) (M : Int) : Tree Stop :=
   .node (s == [])
 (.leaf (Stop.done (SV.tuple [I64 0, SV.bool false])))
 (.req (true && decide (0 < (↑s.length : Int))) (.node ((bt s 0) == 48)
   (.node (decide ((↑s.length : Int) > 1))
    (.leaf (Stop.done (SV.tuple [I64 0, SV.bool false])))
    (.leaf (Stop.at (loopOf Try.prog 47 0) 42 (slotsS 42 [(0, SV.str s), (1, I64 M), (6, I64 0), (22, SV.ptr 0 0)]) [some (Box.iter s 0)])))
   (.leaf (Stop.at (loopOf Try.prog 47 0) 42 (slotsS 42 [(0, SV.str s), (1, I64 M), (6, I64 0), (22, SV.ptr 0 0)]) [some (Box.iter s 0)]))))
theorem num0 (s : List UInt8) (M : Int) : segR (Env.of Try.prog (sumOf [])) 1000 (fnOf Try.prog 47) .unit (keepS 42 [0,1,6,22]) (codeS Try.prog 47) num0_p (startS Try.prog 47 [.str s, I64 M]) [] = num0_t s M := by kernel_rfl
def num1_p : Plan := .fork (.lit (.fork (.lit (.lit (.lit (.all)))) (.lit (.lit (.fork (.all) (.fork (.all) (.all))))))) (.lit (.all))
noncomputable def num1_t (s : List UInt8) (M n : Int) (p : Nat) : Tree Stop :=
   .node (decide (p < s.length))
 (.node (decide ((rn s p) < 48))
  (.leaf (Stop.done (SV.tuple [I64 0, SV.bool false])))
  (.node (decide ((rn s p) > 57))
   (.leaf (Stop.done (SV.tuple [I64 0, SV.bool false])))
   (.node (decide (IntKind.i64.wrap (IntKind.i64.wrap (10 * n) + IntKind.i64.wrap (IntKind.i32.wrap ((rn s p) - 48))) > M))
    (.leaf (Stop.done (SV.tuple [I64 0, SV.bool false])))
    (.leaf (Stop.at (loopOf Try.prog 47 0) 42 (slotsS 42 [(0, SV.str s), (1, I64 M), (6, I64 (IntKind.i64.wrap (IntKind.i64.wrap (10 * n) + IntKind.i64.wrap (IntKind.i32.wrap ((rn s p) - 48))))), (22, SV.ptr 0 0)]) [some (Box.iter s (p + (Utf8.decode (ByteArray.mk (Array.mk s)) p).snd))])))))
 (.leaf (Stop.done (SV.tuple [I64 n, SV.bool true])))
theorem num1 (s : List UInt8) (M n : Int) (p : Nat) : segR (Env.of Try.prog (sumOf [])) 1000 (fnOf Try.prog 47) .unit (keepS 42 [0,1,6,22]) (loopOf Try.prog 47 0) num1_p (slotsS 42 [(0, .str s), (1, I64 M), (6, I64 n), (22, .ptr 0 0)]) [some (.iter s p)] = num1_t s M n p := by kernel_rfl
end Go.Proofs.Ytibpodgdondakaa
set_option linter.unusedSimpArgs false
set_option linter.unusedVariables false
set_option maxRecDepth 100000
namespace Go.Proofs.Ytibpodgdondakaa
open Go.Sx

theorem small_iff {s : List UInt8} : small s = true ↔ (s.length : Int) ≤ 100000 := by simp [small]

theorem bt_get {s : List UInt8} {i : Int} (h0 : 0 ≤ i) (h : i < s.length) : ∃ b, s[i.toNat]? = some b ∧ bt s i = b.toNat := by
  have hl : i.toNat < s.length := by omega
  refine ⟨s[i.toNat], List.getElem?_eq_getElem hl, ?_⟩
  unfold bt
  rw [List.getD_eq_getElem?_getD, List.getElem?_eq_getElem hl]; rfl
theorem bt_drop {s : List UInt8} {i : Int} (h0 : 0 ≤ i) (h : i < s.length) : ∃ b, s.drop i.toNat = b :: s.drop (i + 1).toNat ∧ bt s i = b.toNat := by
  obtain ⟨b, h1, h2⟩ := bt_get h0 h
  have hl : i.toNat < s.length := by omega
  refine ⟨b, ?_, h2⟩
  rw [List.drop_eq_getElem_cons hl, show (i + 1).toNat = i.toNat + 1 by omega]
  rw [List.getElem?_eq_getElem hl] at h1
  injection h1 with h1
  rw [h1]

/-! ### Exclusive or -/

def xorL (x : UInt8) (l : List UInt8) : UInt8 := l.foldl (fun a b => a ^^^ b) x
def xr (s : List UInt8) : Int := (xorL 0 s).toNat

theorem ofInt8 (a : UInt8) : BitVec.ofInt 8 (a.toNat : Int) = a.toBitVec := by
  apply BitVec.eq_of_toNat_eq
  rw [BitVec.toNat_ofInt]
  have := a.toNat_lt
  have h2 : a.toBitVec.toNat = a.toNat := rfl
  rw [h2]
  omega
theorem u8_of (n : Nat) (h : n < 256) : IntKind.u8.wrap (n : Int) = n := by
  have h3 : IntKind.wrap .u8 (n : Int) = if false && decide ((n : Int) % 256 ≥ 128) then (n : Int) % 256 - 256 else (n : Int) % 256 := rfl
  rw [h3]
  simp only [Bool.false_and, Bool.false_eq_true, if_false]
  omega
theorem xor8 (a b : UInt8) : IntKind.u8.wrap ↑(BitVec.ofInt 8 (a.toNat : Int) ^^^ BitVec.ofInt 8 (b.toNat : Int)).toNat = ((a ^^^ b).toNat : Int) := by
  have e : (BitVec.ofInt 8 (a.toNat : Int) ^^^ BitVec.ofInt 8 (b.toNat : Int)).toNat = (a ^^^ b).toNat := by
    have := ofInt8 a
    have := ofInt8 b
    show (BitVec.ofInt 8 (a.toNat : Int) ^^^ BitVec.ofInt 8 (b.toNat : Int)).toNat = (a ^^^ b).toNat
    rw [ofInt8 a, ofInt8 b]; rfl
  rw [e]
  exact u8_of _ (a ^^^ b).toNat_lt
theorem xor64 (a b : UInt8) : IntKind.i64.wrap ↑(BitVec.ofInt 64 (a.toNat : Int) ^^^ BitVec.ofInt 64 (IntKind.i64.wrap (b.toNat : Int))).toNat = ((a ^^^ b).toNat : Int) := by
  have ha := a.toNat_lt
  have hb := b.toNat_lt
  rw [wrap64 (x := (b.toNat : Int)) (by omega) (by omega)]
  have n1 : (BitVec.ofInt 64 (a.toNat : Int)).toNat = a.toNat := by rw [BitVec.toNat_ofInt]; omega
  have n2 : (BitVec.ofInt 64 (b.toNat : Int)).toNat = b.toNat := by rw [BitVec.toNat_ofInt]; omega
  have e : (BitVec.ofInt 64 (a.toNat : Int) ^^^ BitVec.ofInt 64 (b.toNat : Int)).toNat = (a ^^^ b).toNat := by
    show (BitVec.ofInt 64 (a.toNat : Int) ^^^ BitVec.ofInt 64 (b.toNat : Int)).toNat = (a ^^^ b).toNat
    rw [BitVec.toNat_xor, n1, n2, UInt8.toNat_xor]
  rw [e]
  have := (a ^^^ b).toNat_lt
  exact wrap64 (by omega) (by omega)

structure SX where
  x : UInt8
  i : Int
def SX.inv (s : List UInt8) (a : SX) : Prop := 0 ≤ a.i ∧ a.i ≤ s.length ∧ xorL 0 s = xorL a.x (s.drop a.i.toNat)

theorem xor_loop (s : List UInt8) (hs : small s = true) : ∀ a : SX, a.inv s → RunsR Try.prog (fnOf Try.prog 48) (I64 (xr s)) (loopOf Try.prog 48 0) (slotsS 18 [(0, .str s), (3, .int .u8 a.x.toNat), (6, I64 s.length), (7, I64 a.i)]) [] := by
  rw [small_iff] at hs
  refine runsR_of (hK (l := []) trivial) (n := 1000) (hint := .unit) rfl (fun a : SX => a.inv s) (fun a => ((s.length : Int) - a.i).toNat) (keepS 18 [0, 3, 6, 7]) (fun _ => loopOf Try.prog 48 0) (fun a => slotsS 18 [(0, .str s), (3, .int .u8 a.x.toNat), (6, I64 s.length), (7, I64 a.i)]) (fun _ => []) (fun _ => xor1_p) fun a ha => ?_
  obtain ⟨x, i⟩ := a
  obtain ⟨h0, hl, hx⟩ := ha
  dsimp only at h0 hl hx ⊢
  rw [xor1]
  unfold xor1_t
  simp only [Tree.holds, decide_eq_true_eq, decide_eq_false_iff_not, Bool.and_eq_true]
  refine ⟨fun h => ⟨⟨h0, h⟩, slotsS_len _ _, .inl ?_⟩, fun h => ?_⟩
  · obtain ⟨b, h1, h2⟩ := bt_drop h0 h
    rw [h2, xor8, wrap64 (by omega) (by omega)]
    refine ⟨⟨x ^^^ b, i + 1⟩, ⟨by dsimp only; omega, by dsimp only; omega, ?_⟩, by dsimp only; omega, by trivial, rfl, by trivial⟩
    dsimp only
    rw [hx, h1]; rfl
  · show I64 (IntKind.i64.wrap x.toNat) = I64 (xr s)
    have : s.drop i.toNat = [] := List.drop_eq_nil_of_le (by omega)
    rw [this] at hx
    have hx := congrArg (fun u : UInt8 => (u.toNat : Int)) hx
    have hb := x.toNat_lt
    rw [wrap64 (by omega) (by omega)]
    exact congrArg I64 hx.symm
theorem s_xor (s : List UInt8) (hs : small s = true) : SCall Try.prog 48 [.str s] (I64 (xr s)) := by
  refine scallR_loops rfl rfl (by kernel_rfl) (runsR_seg (hK (l := []) trivial) (n := 1000) (hint := .unit) (keep := keepS 18 [0, 3, 6, 7]) (p := xor0_p) (boxes := []) rfl ?_)
  have e := xor0 s
  unfold startS codeS at e
  erw [e]
  exact ⟨slotsS_len _ _, xor_loop s hs ⟨0, 0⟩ ⟨by dsimp only; omega, by dsimp only; omega, rfl⟩⟩

theorem xorR_loop (s : List UInt8) (hs : small s = true) : ∀ a : SX, a.inv s → RunsR Try.prog (fnOf Try.prog 52) (I64 (xr s)) (loopOf Try.prog 52 0) (slotsS 18 [(0, .str s), (3, I64 a.x.toNat), (4, I64 a.i)]) [] := by
  rw [small_iff] at hs
  refine runsR_of (hK (l := []) trivial) (n := 1000) (hint := .unit) rfl (fun a : SX => a.inv s) (fun a => ((s.length : Int) - a.i).toNat) (keepS 18 [0, 3, 4]) (fun _ => loopOf Try.prog 52 0) (fun a => slotsS 18 [(0, .str s), (3, I64 a.x.toNat), (4, I64 a.i)]) (fun _ => []) (fun _ => xorR1_p) fun a ha => ?_
  obtain ⟨x, i⟩ := a
  obtain ⟨h0, hl, hx⟩ := ha
  dsimp only at h0 hl hx ⊢
  rw [xorR1]
  unfold xorR1_t
  simp only [Tree.holds, decide_eq_true_eq, decide_eq_false_iff_not, Bool.and_eq_true]
  refine ⟨fun h => ⟨⟨h0, h⟩, slotsS_len _ _, .inl ?_⟩, fun h => ?_⟩
  · obtain ⟨b, h1, h2⟩ := bt_drop h0 h
    rw [h2, xor64, wrap64 (by omega) (by omega)]
    refine ⟨⟨x ^^^ b, i + 1⟩, ⟨by dsimp only; omega, by dsimp only; omega, ?_⟩, by dsimp only; omega, by trivial, rfl, by trivial⟩
    dsimp only
    rw [hx, h1]; rfl
  · show I64 (x.toNat : Int) = I64 (xr s)
    have : s.drop i.toNat = [] := List.drop_eq_nil_of_le (by omega)
    rw [this] at hx
    have hx := congrArg (fun u : UInt8 => (u.toNat : Int)) hx
    exact congrArg I64 hx.symm
theorem s_xorR (s : List UInt8) (hs : small s = true) : SCall Try.prog 52 [.str s] (I64 (xr s)) := by
  refine scallR_loops rfl rfl (by kernel_rfl) (runsR_seg (hK (l := []) trivial) (n := 1000) (hint := .unit) (keep := keepS 18 [0, 3, 4]) (p := xorR0_p) (boxes := []) rfl ?_)
  have e := xorR0 s
  unfold startS codeS at e
  erw [e]
  exact ⟨slotsS_len _ _, xorR_loop s hs ⟨0, 0⟩ ⟨by dsimp only; omega, by dsimp only; omega, rfl⟩⟩

/-! ### Bytes that may be sent -/

def okB (b : UInt8) : Bool := !decide ((b.toNat : Int) < 32) && (!decide ((b.toNat : Int) > 126) && !((b.toNat : Int) == 42))
def plainB (s : List UInt8) : Bool := s.all okB

theorem plain_loop (s : List UInt8) (hs : small s = true) (v : Bool) : ∀ i : Int, (0 ≤ i ∧ i ≤ s.length ∧ v = plainB (s.drop i.toNat)) → RunsR Try.prog (fnOf Try.prog 37) (.bool v) (loopOf Try.prog 37 0) (slotsS 26 [(0, .str s), (5, I64 s.length), (6, I64 i)]) [] := by
  rw [small_iff] at hs
  refine runsR_of (hK (l := []) trivial) (n := 1000) (hint := .unit) rfl (fun i : Int => 0 ≤ i ∧ i ≤ s.length ∧ v = plainB (s.drop i.toNat)) (fun i => ((s.length : Int) - i).toNat) (keepS 26 [0, 5, 6]) (fun _ => loopOf Try.prog 37 0) (fun i => slotsS 26 [(0, .str s), (5, I64 s.length), (6, I64 i)]) (fun _ => []) (fun _ => plain1_p) fun i hi => ?_
  obtain ⟨h0, hl, hv⟩ := hi
  rw [plain1]
  unfold plain1_t
  simp only [Tree.holds, decide_eq_true_eq, decide_eq_false_iff_not, Bool.and_eq_true, beq_iff_eq, beq_eq_false_iff_ne]
  refine ⟨fun h => ?_, fun h => ?_⟩
  · obtain ⟨b, h1, h2⟩ := bt_drop h0 h
    rw [h1] at hv
    rw [h2]
    have hv : v = (okB b && plainB (s.drop (i + 1).toNat)) := hv
    have bad : okB b = false → SV.bool false = SV.bool v := fun hb => by rw [hv, hb]; rfl
    refine ⟨⟨h0, h⟩, fun c1 => bad ?_, fun c1 => ⟨⟨h0, h⟩, fun c2 => bad ?_, fun c2 => ⟨⟨h0, h⟩, fun c3 => bad ?_, fun c3 => ⟨slotsS_len _ _, .inl ?_⟩⟩⟩⟩
    · simp [okB, c1]
    · simp [okB, c2]
    · simp [okB, c3]
    · rw [wrap64 (by omega) (by omega)]
      refine ⟨i + 1, ⟨by omega, by omega, ?_⟩, by omega, by trivial, rfl, by trivial⟩
      rw [hv]
      have : okB b = true := by simp only [okB, c1, c2, c3, decide_false, Bool.not_false, Bool.true_and]; simpa using c3
      rw [this, Bool.true_and]
  · show SV.bool true = SV.bool v
    have : s.drop i.toNat = [] := List.drop_eq_nil_of_le (by omega)
    rw [hv, this]; rfl
theorem s_plain (s : List UInt8) (hs : small s = true) : SCall Try.prog 37 [.str s] (.bool (plainB s)) := by
  refine scallR_loops rfl rfl (by kernel_rfl) (runsR_seg (hK (l := []) trivial) (n := 1000) (hint := .unit) (keep := keepS 26 [0, 5, 6]) (p := plain0_p) (boxes := []) rfl ?_)
  have e := plain0 s
  unfold startS codeS at e
  erw [e]
  exact ⟨slotsS_len _ _, plain_loop s hs _ 0 ⟨by omega, by omega, rfl⟩⟩

theorem plainR_loop (s : List UInt8) (hs : small s = true) (v : Bool) : ∀ i : Int, (0 ≤ i ∧ i ≤ s.length ∧ v = plainB (s.drop i.toNat)) → RunsR Try.prog (fnOf Try.prog 40) (.bool v) (loopOf Try.prog 40 0) (slotsS 26 [(0, .str s), (3, I64 i)]) [] := by
  rw [small_iff] at hs
  refine runsR_of (hK (l := []) trivial) (n := 1000) (hint := .unit) rfl (fun i : Int => 0 ≤ i ∧ i ≤ s.length ∧ v = plainB (s.drop i.toNat)) (fun i => ((s.length : Int) - i).toNat) (keepS 26 [0, 3]) (fun _ => loopOf Try.prog 40 0) (fun i => slotsS 26 [(0, .str s), (3, I64 i)]) (fun _ => []) (fun _ => plainR1_p) fun i hi => ?_
  obtain ⟨h0, hl, hv⟩ := hi
  rw [plainR1]
  unfold plainR1_t
  simp only [Tree.holds, decide_eq_true_eq, decide_eq_false_iff_not, Bool.and_eq_true, beq_iff_eq, beq_eq_false_iff_ne]
  refine ⟨fun h => ?_, fun h => ?_⟩
  · obtain ⟨b, h1, h2⟩ := bt_drop h0 h
    rw [h1] at hv
    rw [h2]
    have hv : v = (okB b && plainB (s.drop (i + 1).toNat)) := hv
    have bad : okB b = false → SV.bool false = SV.bool v := fun hb => by rw [hv, hb]; rfl
    refine ⟨⟨h0, h⟩, fun c1 => bad ?_, fun c1 => ⟨⟨h0, h⟩, fun c2 => bad ?_, fun c2 => ⟨⟨h0, h⟩, fun c3 => bad ?_, fun c3 => ⟨slotsS_len _ _, .inl ?_⟩⟩⟩⟩
    · simp [okB, c1]
    · simp [okB, c2]
    · simp [okB, c3]
    · rw [wrap64 (by omega) (by omega)]
      refine ⟨i + 1, ⟨by omega, by omega, ?_⟩, by omega, by trivial, rfl, by trivial⟩
      rw [hv]
      have : okB b = true := by simp only [okB, c1, c2, c3, decide_false, Bool.not_false, Bool.true_and]; simpa using c3
      rw [this, Bool.true_and]
  · show SV.bool true = SV.bool v
    have : s.drop i.toNat = [] := List.drop_eq_nil_of_le (by omega)
    rw [hv, this]; rfl
theorem s_plainR (s : List UInt8) (hs : small s = true) : SCall Try.prog 40 [.str s] (.bool (plainB s)) := by
  refine scallR_loops rfl rfl (by kernel_rfl) (runsR_seg (hK (l := []) trivial) (n := 1000) (hint := .unit) (keep := keepS 26 [0, 3]) (p := plainR0_p) (boxes := []) rfl ?_)
  have e := plainR0 s
  unfold startS codeS at e
  erw [e]
  exact ⟨slotsS_len _ _, plainR_loop s hs _ 0 ⟨by omega, by omega, rfl⟩⟩

/-! ### Where a byte is -/

theorem ix_cons (b : UInt8) (l : List UInt8) (c : UInt8) : ix (b :: l) c = if b = c then 0 else if ix l c = -1 then -1 else ix l c + 1 := by
  unfold ix
  rw [Lib.indexByte]
  by_cases h : b = c
  · simp [h]
  · simp [h]
theorem ix_nil (c : UInt8) : ix [] c = -1 := rfl
theorem ix_ge (s : List UInt8) (c : UInt8) : -1 ≤ ix s c := Lib.indexByte_ge s c
theorem ix_lt (s : List UInt8) (c : UInt8) : ix s c < s.length := by
  induction s with
  | nil => rw [ix_nil]; decide
  | cons b l ih =>
    rw [ix_cons]
    have := ix_ge l c
    simp only [List.length_cons]
    split
    · omega
    · split <;> omega

theorem find_loop (s : List UInt8) (hs : small s = true) (c : UInt8) (v : Int) : ∀ i : Int, (0 ≤ i ∧ i ≤ s.length ∧ v = (if ix (s.drop i.toNat) c = -1 then -1 else ix (s.drop i.toNat) c + i)) → RunsR Try.prog (fnOf Try.prog 50) (I64 v) (loopOf Try.prog 50 0) (slotsS 18 [(0, .str s), (1, .int .u8 c.toNat), (5, I64 i)]) [] := by
  rw [small_iff] at hs
  refine runsR_of (hK (l := []) trivial) (n := 1000) (hint := .unit) rfl (fun i : Int => 0 ≤ i ∧ i ≤ s.length ∧ v = (if ix (s.drop i.toNat) c = -1 then -1 else ix (s.drop i.toNat) c + i)) (fun i => ((s.length : Int) - i).toNat) (keepS 18 [0, 1, 5]) (fun _ => loopOf Try.prog 50 0) (fun i => slotsS 18 [(0, .str s), (1, .int .u8 c.toNat), (5, I64 i)]) (fun _ => []) (fun _ => find1_p) fun i hi => ?_
  obtain ⟨h0, hl, hv⟩ := hi
  rw [find1]
  unfold find1_t
  simp only [Tree.holds, decide_eq_true_eq, decide_eq_false_iff_not, Bool.and_eq_true, beq_iff_eq, beq_eq_false_iff_ne]
  refine ⟨fun h => ?_, fun h => ?_⟩
  · obtain ⟨b, h1, h2⟩ := bt_drop h0 h
    rw [h1, ix_cons] at hv
    rw [h2]
    have eb : (b.toNat : Int) = (c.toNat : Int) ↔ b = c := ⟨fun h => UInt8.toNat_inj.1 (by omega), fun h => by rw [h]⟩
    refine ⟨⟨h0, h⟩, fun c1 => ?_, fun c1 => ⟨slotsS_len _ _, .inl ?_⟩⟩
    · show I64 i = I64 v
      rw [if_pos (eb.1 c1)] at hv
      rw [hv]; simp
    · rw [wrap64 (by omega) (by omega)]
      refine ⟨i + 1, ⟨by omega, by omega, ?_⟩, by omega, by trivial, rfl, by trivial⟩
      rw [if_neg (fun e => c1 (eb.2 e))] at hv
      rw [hv]
      have := ix_ge (s.drop (i + 1).toNat) c
      by_cases hm : ix (s.drop (i + 1).toNat) c = -1
      · simp [hm]
      · simp only [hm, if_false]
        rw [if_neg (by omega)]; omega
  · show I64 (-1) = I64 v
    have : s.drop i.toNat = [] := List.drop_eq_nil_of_le (by omega)
    rw [this, ix_nil] at hv
    rw [hv]; rfl
theorem s_find (s : List UInt8) (hs : small s = true) (c : UInt8) : SCall Try.prog 50 [.str s, .int .u8 c.toNat] (I64 (ix s c)) := by
  refine scallR_loops rfl rfl (by kernel_rfl) (runsR_seg (hK (l := []) trivial) (n := 1000) (hint := .unit) (keep := keepS 18 [0, 1, 5]) (p := find0_p) (boxes := []) rfl ?_)
  have e := find0 s c.toNat
  unfold startS codeS at e
  erw [e]
  refine ⟨slotsS_len _ _, find_loop s hs c _ 0 ⟨by omega, by omega, ?_⟩⟩
  simp only [Int.toNat_zero, List.drop_zero, Int.add_zero]
  split <;> omega

def fXor : Fact := factL 48 fun s => .leaf (I64 (xr s))
def fXorR : Fact := factL 52 fun s => .leaf (I64 (xr s))
def fPlain : Fact := factL 37 fun s => .leaf (.bool (plainB s))
def fPlainR : Fact := factL 40 fun s => .leaf (.bool (plainB s))
/-- The byte itself is known. -/
def fFind (c : UInt8) : Fact := ⟨50, fun args => match args with
  | [.str a, .int .u8 n] => some (.req (small a) (.node (n == 42) (.leaf (I64 (ix a 42))) (.node (n == 32) (.leaf (I64 (ix a 32))) (.fail 0))))
  | _ => none⟩
theorem o_xor : fXor.ok Try.prog := factL_ok s_xor
theorem o_xorR : fXorR.ok Try.prog := factL_ok s_xorR
theorem o_plain : fPlain.ok Try.prog := factL_ok s_plain
theorem o_plainR : fPlainR.ok Try.prog := factL_ok s_plainR
theorem o_find (c : UInt8) : (fFind c).ok Try.prog := fun args t ht => by
  simp only [fFind] at ht
  split at ht
  · rename_i a n
    injection ht with ht; subst ht
    refine fun hs => ⟨fun h => ?_, fun h => ⟨fun h2 => ?_, fun h2 => trivial⟩⟩
    · rw [beq_iff_eq] at h; subst h
      exact s_find a hs 42
    · rw [beq_iff_eq] at h2; subst h2
      exact s_find a hs 32
  · cases ht
end Go.Proofs.Ytibpodgdondakaa
set_option linter.unusedSimpArgs false
set_option linter.unusedVariables false
set_option maxRecDepth 100000
namespace Go.Proofs.Ytibpodgdondakaa
open Go.Sx
def parse0_p : Plan := .fork (.lit (.lit (.lit (.fork (.fork (.lit (.lit (.lit (.lit (.lit (.lit (.lit (.all)))))))) (.lit (.lit (.lit (.lit (.fork (.lit (.lit (.lit (.lit (.lit (.fork (.all) (.all))))))) (.lit (.lit (.lit (.lit (.lit (.lit (.all))))))))))))) (.fork (.lit (.lit (.lit (.lit (.lit (.lit (.lit (.all)))))))) (.lit (.lit (.lit (.lit (.fork (.lit (.lit (.lit (.lit (.lit (.fork (.all) (.all))))))) (.lit (.lit (.lit (.lit (.lit (.lit (.all))))))))))))))))) (.lit (.lit (.lit (.lit (.fork (.lit (.lit (.lit (.lit (.lit (.lit (.lit (.all)))))))) (.lit (.lit (.lit (.lit (.fork (.lit (.lit (.lit (.lit (.lit (.fork (.all) (.all))))))) (.lit (.lit (.lit (.lit (.lit (.lit (.all)))))))))))))))))
noncomputable def parse0_t (s : List UInt8) : Tree Stop :=
   .node (decide ((↑s.length : Int) > 0))
 (.req (true && decide (0 < (↑s.length : Int))) (.node ((bt s 0) == 45)
   (.node ((↑s.length : Int) == 1)
    (.leaf (Stop.done (SV.tuple [I64 0, I64 5])))
    (.req (true && decide (1 < (↑s.length : Int))) (.node ((bt s 1) == 48)
      (.node (decide ((↑s.length : Int) > 1))
       (.leaf (Stop.done (SV.tuple [I64 0, I64 5])))
       (.leaf (Stop.at (loopOf Try.prog 51 0) 77 (slotsS 77 [(0, SV.str s), (4, I64 1), (5, I64 1), (6, SV.undef), (7, SV.undef)]) [])))
      (.leaf (Stop.at (loopOf Try.prog 51 0) 77 (slotsS 77 [(0, SV.str s), (4, I64 1), (5, I64 1), (6, SV.undef), (7, SV.undef)]) [])))))
   (.node ((↑s.length : Int) == 0)
    (.leaf (Stop.done (SV.tuple [I64 0, I64 5])))
    (.req (true && decide (0 < (↑s.length : Int))) (.node ((bt s 0) == 48)
      (.node (decide ((↑s.length : Int) > 1))
       (.leaf (Stop.done (SV.tuple [I64 0, I64 5])))
       (.leaf (Stop.at (loopOf Try.prog 51 0) 77 (slotsS 77 [(0, SV.str s), (4, I64 0), (5, I64 0), (6, SV.undef), (7, SV.undef)]) [])))
      (.leaf (Stop.at (loopOf Try.prog 51 0) 77 (slotsS 77 [(0, SV.str s), (4, I64 0), (5, I64 0), (6, SV.undef), (7, SV.undef)]) [])))))))
 (.node ((↑s.length : Int) == 0)
  (.leaf (Stop.done (SV.tuple [I64 0, I64 5])))
  (.req (true && decide (0 < (↑s.length : Int))) (.node ((bt s 0) == 48)
    (.node (decide ((↑s.length : Int) > 1))
     (.leaf (Stop.done (SV.tuple [I64 0, I64 5])))
     (.leaf (Stop.at (loopOf Try.prog 51 0) 77 (slotsS 77 [(0, SV.str s), (4, I64 0), (5, I64 0), (6, SV.undef), (7, SV.undef)]) [])))
    (.leaf (Stop.at (loopOf Try.prog 51 0) 77 (slotsS 77 [(0, SV.str s), (4, I64 0), (5, I64 0), (6, SV.undef), (7, SV.undef)]) [])))))
theorem parse0 (s : List UInt8) : segR (Env.of Try.prog (sumOf [])) 1000 (fnOf Try.prog 51) .unit (keepS 77 [0,4,5,6,7]) (codeS Try.prog 51) parse0_p (startS Try.prog 51 [.str s]) [] = parse0_t s := by kernel_rfl
def parse1_p : Plan := .fork (.fork (.lit (.lit (.lit (.lit (.lit (.all)))))) (.lit (.lit (.lit (.lit (.fork (.all) (.all))))))) (.all)
noncomputable def parse1_t (s : List UInt8) (f i : Int) : Tree Stop :=
   .node (decide (i < (↑s.length : Int)))
 (.req (decide (0 ≤ i) && decide (i < (↑s.length : Int))) (.node (decide ((bt s i) < 48))
   (.leaf (Stop.done (SV.tuple [I64 0, I64 5])))
   (.req (decide (0 ≤ i) && decide (i < (↑s.length : Int))) (.node (decide ((bt s i) > 57))
     (.leaf (Stop.done (SV.tuple [I64 0, I64 5])))
     (.leaf (Stop.at (loopOf Try.prog 51 0) 77 (slotsS 77 [(0, SV.str s), (4, I64 f), (5, I64 (IntKind.i64.wrap (i + 1))), (6, SV.undef), (7, SV.undef)]) []))))))
 (.leaf (Stop.at (loopOf Try.prog 51 1) 77 (slotsS 77 [(0, SV.str s), (4, I64 f), (5, I64 i), (6, I64 0), (7, I64 f)]) []))
theorem parse1 (s : List UInt8) (f i : Int) : segR (Env.of Try.prog (sumOf [])) 1000 (fnOf Try.prog 51) .unit (keepS 77 [0,4,5,6,7]) (loopOf Try.prog 51 0) parse1_p (slotsS 77 [(0, .str s), (4, I64 f), (5, I64 i), (6, .undef), (7, .undef)]) [] = parse1_t s f i := by kernel_rfl
def parse2_p : Plan := .fork (.fork (.all) (.all)) (.fork (.all) (.fork (.all) (.all)))
noncomputable def parse2_t (s : List UInt8) (f j n i : Int) : Tree Stop :=
   .node (decide (i < (↑s.length : Int)))
 (.req (decide (0 ≤ i) && decide (i < (↑s.length : Int))) (.req (true) (.node (decide (n < IntKind.i64.wrap ((IntKind.i64.wrap (-9223372036854775808 + IntKind.i64.wrap (IntKind.u8.wrap ((bt s i) - 48)))).tdiv 10)))
    (.leaf (Stop.done (SV.tuple [I64 0, I64 3])))
    (.leaf (Stop.at (loopOf Try.prog 51 1) 77 (slotsS 77 [(0, SV.str s), (4, I64 f), (5, I64 j), (6, I64 (IntKind.i64.wrap (IntKind.i64.wrap (10 * n) - IntKind.i64.wrap (IntKind.u8.wrap ((bt s i) - 48))))), (7, I64 (IntKind.i64.wrap (i + 1)))]) [])))))
 (.node (f == 1)
  (.leaf (Stop.done (SV.tuple [I64 n, I64 0])))
  (.node (n == -9223372036854775808)
   (.leaf (Stop.done (SV.tuple [I64 0, I64 3])))
   (.leaf (Stop.done (SV.tuple [I64 (IntKind.i64.wrap (0 - n)), I64 0])))))
theorem parse2 (s : List UInt8) (f j n i : Int) : segR (Env.of Try.prog (sumOf [])) 1000 (fnOf Try.prog 51) .unit (keepS 77 [0,4,5,6,7]) (loopOf Try.prog 51 1) parse2_p (slotsS 77 [(0, .str s), (4, I64 f), (5, I64 j), (6, I64 n), (7, I64 i)]) [] = parse2_t s f j n i := by kernel_rfl
end Go.Proofs.Ytibpodgdondakaa
set_option linter.unusedSimpArgs false
set_option linter.unusedVariables false
set_option maxRecDepth 100000
namespace Go.Proofs.Ytibpodgdondakaa
open Go.Sx

def isDig (b : UInt8) : Bool := decide (48 ≤ (b.toNat : Int)) && decide ((b.toNat : Int) ≤ 57)
def digs (l : List UInt8) : Bool := l.all isDig
def valF (n : Int) (l : List UInt8) : Int := l.foldl (fun n b => 10 * n + ((b.toNat : Int) - 48)) n
def val (l : List UInt8) : Int := valF 0 l

theorem isDig_iff {b : UInt8} : isDig b = true ↔ 48 ≤ (b.toNat : Int) ∧ (b.toNat : Int) ≤ 57 := by simp [isDig]
theorem valF_cons (n : Int) (b : UInt8) (l : List UInt8) : valF n (b :: l) = valF (10 * n + ((b.toNat : Int) - 48)) l := rfl
theorem valF_ge : ∀ (l : List UInt8) (n : Int), 0 ≤ n → digs l = true → n ≤ valF n l
  | [], n, _, _ => Int.le_refl n
  | b :: l, n, h, hd => by
    simp only [digs, List.all_cons, Bool.and_eq_true] at hd
    have := isDig_iff.1 hd.1
    rw [valF_cons]
    have := valF_ge l (10 * n + ((b.toNat : Int) - 48)) (by omega) hd.2
    omega

/-! ### The one way -/

/-- The number of a text that is at most M. -/
def numR (M : Int) : Int → List UInt8 → Option Int
  | n, [] => some n
  | n, b :: l => if isDig b then (if 10 * n + ((b.toNat : Int) - 48) > M then none else numR M (10 * n + ((b.toNat : Int) - 48)) l) else none
theorem numR_eq {M : Int} : ∀ (l : List UInt8) (n : Int), 0 ≤ n → n ≤ M → numR M n l = if digs l = true ∧ valF n l ≤ M then some (valF n l) else none
  | [], n, h0, hM => by simp [numR, digs, valF, hM]
  | b :: l, n, h0, hM => by
    unfold numR
    by_cases hb : isDig b = true
    · have hb' := isDig_iff.1 hb
      rw [if_pos hb, valF_cons]
      have hdc : digs (b :: l) = digs l := by simp [digs, hb]
      rw [hdc]
      by_cases hm : 10 * n + ((b.toNat : Int) - 48) > M
      · rw [if_pos hm, if_neg]
        rintro ⟨hd, hv⟩
        have := valF_ge l (10 * n + ((b.toNat : Int) - 48)) (by omega) hd
        omega
      · rw [if_neg hm]
        exact numR_eq l _ (by omega) (by omega)
    · rw [if_neg hb, if_neg]
      rintro ⟨hd, _⟩
      simp only [digs, List.all_cons, Bool.and_eq_true] at hd
      exact hb hd.1
def lead0 (s : List UInt8) : Bool := (s.head? == some 48) && decide (1 < s.length)
def numV (M : Int) (s : List UInt8) : Option Int := if s = [] ∨ lead0 s = true then none else numR M 0 s
def numS (o : Option Int) : SV := match o with
  | some n => .tuple [I64 n, .bool true]
  | none => .tuple [I64 0, .bool false]

theorem getBang {s : List UInt8} {p : Nat} {b : UInt8} (h : s[p]? = some b) : (ByteArray.mk (Array.mk s)).get! p = b := by
  show (Array.mk s)[p]! = b
  have hl := (List.getElem?_eq_some_iff.1 h).1
  rw [getElem!_pos _ _ (by simpa using hl)]
  simpa using (List.getElem?_eq_some_iff.1 h).2

theorem decode_lo {s : List UInt8} {p : Nat} {b : UInt8} (h : s[p]? = some b) (hb : b.toNat < 128) : Utf8.decode (ByteArray.mk (Array.mk s)) p = (b.toNat, 1) := by
  have e : ((ByteArray.mk (Array.mk s)).get! (p + 0)).toNat = b.toNat := by rw [Nat.add_zero, getBang h]
  unfold Utf8.decode
  simp only [e]
  rw [if_pos hb]
theorem decode_hi {s : List UInt8} {p : Nat} {b : UInt8} (h : s[p]? = some b) (hb : 128 ≤ b.toNat) : 128 ≤ (Utf8.decode (ByteArray.mk (Array.mk s)) p).1 := by
  have e : ((ByteArray.mk (Array.mk s)).get! (p + 0)).toNat = b.toNat := by rw [Nat.add_zero, getBang h]
  unfold Utf8.decode
  simp only [e]
  rw [if_neg (by omega)]
  have re : Utf8.runeError = 65533 := rfl
  repeat' split
  all_goals first
    | (rw [re]; omega)
    | (rename_i hc; simp only [Bool.and_eq_true, decide_eq_true_eq, ge_iff_le] at hc; dsimp only; omega)
    | (rename_i hc; dsimp only; omega)

structure SN where
  n : Int
  p : Nat
def SN.inv (s : List UInt8) (M : Int) (o : Option Int) (a : SN) : Prop := 0 ≤ a.n ∧ a.n ≤ M ∧ a.p ≤ s.length ∧ o = numR M a.n (s.drop a.p)

theorem numS_data (o : Option Int) : (numS o).data = true := by cases o <;> rfl

theorem num_loop (s : List UInt8) (M : Int) (hM : 0 ≤ M ∧ M ≤ 4398046511104) (o : Option Int) : ∀ a : SN, a.inv s M o → RunsR Try.prog (fnOf Try.prog 47) (numS o) (loopOf Try.prog 47 0) (slotsS 42 [(0, .str s), (1, I64 M), (6, I64 a.n), (22, .ptr 0 0)]) [some (.iter s a.p)] := by
  refine runsR_of (hK (l := []) trivial) (n := 1000) (hint := .unit) (numS_data o) (fun a : SN => a.inv s M o) (fun a => s.length - a.p) (keepS 42 [0, 1, 6, 22]) (fun _ => loopOf Try.prog 47 0) (fun a => slotsS 42 [(0, .str s), (1, I64 M), (6, I64 a.n), (22, .ptr 0 0)]) (fun a => [some (.iter s a.p)]) (fun _ => num1_p) fun a ha => ?_
  obtain ⟨n, p⟩ := a
  obtain ⟨h0, hn, hp, ho⟩ := ha
  dsimp only at h0 hn hp ho ⊢
  rw [num1]
  unfold num1_t
  simp only [Tree.holds, decide_eq_true_eq, decide_eq_false_iff_not]
  refine ⟨fun h => ?_, fun h => ?_⟩
  · have hb : s[p]? = some s[p] := List.getElem?_eq_getElem h
    generalize s[p] = b at hb
    have hdrop : s.drop p = b :: s.drop (p + 1) := by
      rw [List.drop_eq_getElem_cons h]
      rw [List.getElem?_eq_getElem h] at hb
      injection hb with hb; rw [hb]
    rw [hdrop] at ho
    unfold numR at ho
    have hb8 := b.toNat_lt
    by_cases h128 : b.toNat < 128
    · have er : rn s p = b.toNat := by unfold rn; rw [decode_lo hb h128]
      rw [er, decode_lo hb h128]
      refine ⟨fun c1 => ?_, fun c1 => ⟨fun c2 => ?_, fun c2 => ?_⟩⟩
      · rw [if_neg (by rw [isDig_iff]; omega)] at ho
        rw [ho]; rfl
      · rw [if_neg (by rw [isDig_iff]; omega)] at ho
        rw [ho]; rfl
      · rw [if_pos (by rw [isDig_iff]; omega)] at ho
        have hw : IntKind.i32.wrap ((b.toNat : Int) - 48) = (b.toNat : Int) - 48 := by
          have h3 : IntKind.wrap .i32 ((b.toNat : Int) - 48) = if true && decide (((b.toNat : Int) - 48) % 4294967296 ≥ 2147483648) then ((b.toNat : Int) - 48) % 4294967296 - 4294967296 else ((b.toNat : Int) - 48) % 4294967296 := rfl
          rw [h3]
          simp only [Bool.true_and, decide_eq_true_eq]
          split <;> omega
        rw [hw, wrap64 (x := 10 * n) (by omega) (by omega), wrap64 (x := (b.toNat : Int) - 48) (by omega) (by omega), wrap64 (by omega) (by omega)]
        refine ⟨fun c3 => ?_, fun c3 => ⟨slotsS_len _ _, .inl ?_⟩⟩
        · rw [if_pos c3] at ho
          rw [ho]; rfl
        · rw [if_neg c3] at ho
          exact ⟨⟨10 * n + ((b.toNat : Int) - 48), p + 1⟩, ⟨by dsimp only; omega, by dsimp only; omega, by dsimp only; omega, ho⟩, by dsimp only; omega, by trivial, rfl, rfl⟩
    · have er : 128 ≤ rn s p := by
        have := decode_hi hb (by omega)
        unfold rn; omega
      rw [if_neg (by rw [isDig_iff]; omega)] at ho
      refine ⟨fun c1 => by omega, fun c1 => ⟨fun c2 => ?_, fun c2 => by omega⟩⟩
      rw [ho]; rfl
  · have : s.drop p = [] := List.drop_eq_nil_of_le (by omega)
    rw [this] at ho
    rw [ho]; rfl

theorem bt0 {b : UInt8} {l : List UInt8} : bt (b :: l) 0 = b.toNat := rfl
theorem head48 {b : UInt8} : (b.toNat : Int) = 48 ↔ b = 48 := ⟨fun h => UInt8.toNat_inj.1 (by have : (48 : UInt8).toNat = 48 := rfl; omega), fun h => by subst h; rfl⟩

theorem s_num (s : List UInt8) (M : Int) (hM : 0 ≤ M ∧ M ≤ 4398046511104) : SCall Try.prog 47 [.str s, I64 M] (numS (numV M s)) := by
  refine scallR_loops rfl (numS_data _) (by kernel_rfl) (runsR_seg (hK (l := []) trivial) (n := 1000) (hint := .unit) (keep := keepS 42 [0, 1, 6, 22]) (p := num0_p) (boxes := []) (numS_data _) ?_)
  have e := num0 s M
  unfold startS codeS at e
  erw [e]
  unfold num0_t
  cases s with
  | nil =>
    simp only [Tree.holds]
    exact ⟨fun _ => rfl, fun h => by simp at h⟩
  | cons b l =>
    have go : lead0 (b :: l) = false → RunsR Try.prog (fnOf Try.prog 47) (numS (numV M (b :: l))) (loopOf Try.prog 47 0) (slotsS 42 [(0, .str (b :: l)), (1, I64 M), (6, I64 0), (22, .ptr 0 0)]) [some (.iter (b :: l) 0)] := fun hl =>
      num_loop (b :: l) M hM _ ⟨0, 0⟩ ⟨by dsimp only; omega, hM.1, Nat.zero_le _, by unfold numV; rw [if_neg (by simp [hl])]; rfl⟩
    rw [bt0]
    have hne : ((b :: l) == ([] : List UInt8)) = false := rfl
    rw [hne]
    simp only [Tree.holds, Bool.false_eq_true, false_implies, true_implies, true_and, beq_iff_eq, beq_eq_false_iff_ne, decide_eq_true_eq, decide_eq_false_iff_not, Bool.and_eq_true]
    refine ⟨by simp, fun c1 => ⟨fun c2 => ?_, fun c2 => ⟨slotsS_len _ _, go ?_⟩⟩, fun c1 => ⟨slotsS_len _ _, go ?_⟩⟩
    · rw [head48] at c1; subst c1
      unfold numV
      rw [if_pos (.inr (by simp [lead0]; simp at c2; omega))]; rfl
    · have h2 : decide (1 < (b :: l).length) = false := by rw [decide_eq_false_iff_not]; omega
      rw [lead0, h2, Bool.and_false]
    · have : b ≠ 48 := fun h => c1 (head48.2 h)
      simp [lead0, this]
end Go.Proofs.Ytibpodgdondakaa
set_option linter.unusedSimpArgs false
set_option linter.unusedVariables false
set_option maxRecDepth 100000
namespace Go.Proofs.Ytibpodgdondakaa
open Go.Sx

/-- The size of a number. -/
def size (n : Int) : Int := if n < 0 then IntKind.u64.wrap (0 - IntKind.u64.wrap n) else IntKind.u64.wrap n
/-- Its digits, the last one first (at most so many). -/
def rd : Nat → Int → List Int
  | 0, _ => []
  | k + 1, u => (48 + u % 10) :: if 0 < u / 10 then rd k (u / 10) else []
def toB (l : List Int) : List UInt8 := List.map (fun n => UInt8.ofNat (Int.toNat n)) l
def backs (n : Int) : List Int := rd 20 (size n) ++ if n < 0 then [45] else []
def fmt (n : Int) : List UInt8 := toB (backs n).reverse

theorem u64_def (n : Int) : IntKind.u64.wrap n = n % 18446744073709551616 := by
  have h2 : IntKind.wrap .u64 n = if false && decide (n % 18446744073709551616 ≥ 9223372036854775808) then n % 18446744073709551616 - 18446744073709551616 else n % 18446744073709551616 := rfl
  rw [h2]; simp
theorem u64_id {n : Int} (h : 0 ≤ n) (h2 : n < 18446744073709551616) : IntKind.u64.wrap n = n := by rw [u64_def]; omega
theorem size_range (n : Int) : 0 ≤ size n ∧ size n < 18446744073709551616 := by
  unfold size
  split <;> rw [u64_def] <;> omega
theorem u8_id {n : Int} (h : 0 ≤ n) (h2 : n < 256) : IntKind.u8.wrap n = n := by
  have h3 : IntKind.wrap .u8 n = if false && decide (n % 256 ≥ 128) then n % 256 - 256 else n % 256 := rfl
  rw [h3]
  simp only [Bool.false_and, Bool.false_eq_true, if_false]
  omega
theorem digit {u : Int} (h : 0 ≤ u) : IntKind.u8.wrap (IntKind.u64.wrap (48 + u.tmod 10)) = 48 + u % 10 := by
  rw [Int.tmod_eq_emod_of_nonneg h, u64_id (by omega) (by omega), u8_id (by omega) (by omega)]
theorem tenth {u : Int} (h : 0 ≤ u) (h2 : u < 18446744073709551616) : IntKind.u64.wrap (u.tdiv 10) = u / 10 := by
  rw [Int.tdiv_eq_ediv_of_nonneg h, u64_id (by omega) (by omega)]

theorem rd_len : ∀ (k : Nat) (u : Int), (rd k u).length ≤ k
  | 0, _ => Nat.le_refl _
  | k + 1, u => by
    unfold rd
    have := rd_len k (u / 10)
    split <;> simp <;> omega
theorem backs_len (n : Int) : (backs n).length ≤ 21 ∧ 0 < (backs n).length := by
  have := rd_len 20 (size n)
  unfold backs
  constructor
  · split <;> simp <;> omega
  · unfold rd; simp

/-! ### The second loop: the bytes are turned round -/

structure S2 where
  u : Int
  l : List Int
  i : Int
  k : Int
def turned (E l : List Int) (i k : Int) : Prop := l.length = E.length ∧ 0 ≤ i ∧ i + k = (E.length : Int) - 1 ∧ ∀ j : Nat, j < E.length → l.getD j 0 = if (j : Int) < i ∨ k < j then E.getD (E.length - 1 - j) 0 else E.getD j 0

theorem getD_set (l : List Int) (a : Nat) (v : Int) (j : Nat) (h : a < l.length) : (l.set a v).getD j 0 = if j = a then v else l.getD j 0 := by
  rw [List.getD_eq_getElem?_getD, List.getElem?_set, List.getD_eq_getElem?_getD]
  by_cases hj : j = a
  · subst hj; simp [h]
  · rw [if_neg (Ne.symm hj), if_neg hj]

theorem turned_step {E l : List Int} {i k : Int} (h : turned E l i k) (hik : i < k) : turned E ((l.set i.toNat (l.getD k.toNat 0)).set k.toNat (l.getD i.toNat 0)) (i + 1) (k - 1) := by
  obtain ⟨h1, h2, h3, h4⟩ := h
  refine ⟨by simp [h1], by omega, by omega, fun j hj => ?_⟩
  rw [getD_set _ _ _ _ (by simp; omega), getD_set _ _ _ _ (by omega)]
  have hk := h4 k.toNat (by omega)
  have hi := h4 i.toNat (by omega)
  rw [if_neg (by omega)] at hk hi
  by_cases c1 : j = k.toNat
  · rw [if_pos c1, if_pos (by omega), hi]
    congr 1; omega
  · rw [if_neg c1]
    by_cases c2 : j = i.toNat
    · rw [if_pos c2, if_pos (by omega), hk]
      congr 1; omega
    · rw [if_neg c2, h4 j hj]
      by_cases c3 : (j : Int) < i ∨ k < j
      · rw [if_pos c3, if_pos (by omega)]
      · rw [if_neg c3, if_neg (by omega)]

theorem turned_end {E l : List Int} {i k : Int} (h : turned E l i k) (hik : k ≤ i) : l = E.reverse := by
  obtain ⟨h1, h2, h3, h4⟩ := h
  refine List.ext_getElem? fun j => ?_
  by_cases hj : j < E.length
  · have := h4 j hj
    rw [List.getD_eq_getElem?_getD, List.getElem?_eq_getElem (by omega)] at this
    rw [List.getElem?_eq_getElem (by omega), List.getElem?_reverse hj, List.getElem?_eq_getElem (by omega)]
    congr 1
    simp only [Option.getD_some] at this
    rw [this]
    by_cases c : (j : Int) < i ∨ k < j
    · rw [if_pos c, List.getD_eq_getElem?_getD, List.getElem?_eq_getElem (by omega)]; rfl
    · rw [if_neg c, List.getD_eq_getElem?_getD, List.getElem?_eq_getElem (by omega)]
      simp only [Option.getD_some]
      congr 1; omega
  · rw [List.getElem?_eq_none (by omega), List.getElem?_eq_none (by simp; omega)]

theorem fmt2_leaves {n u : Int} {l E : List Int} {i k : Int} (h : turned E l i k) (hE : E.length ≤ 21) (Q : Stop → Prop) (q1 : Q (.done (.str (toB E.reverse))))
    (q2 : ∀ l' , turned E l' (i + 1) (k - 1) → i < k → Q (Stop.at (loopOf Try.prog 39 1) 58 (slotsS 58 [(0, I64 n), (3, SV.int IntKind.u64 u), (4, SV.row 0), (5, I64 (i + 1)), (6, I64 (k - 1))]) [some (Box.rows (Ty.int IntKind.u8) l')])) : (fmt2_t n u l i k).holds Q := by
  obtain ⟨h1, h2, h3, h4⟩ := id h
  have hd : ∀ j : Nat, l.getD j (Ty.dflt (Ty.int IntKind.u8)) = l.getD j 0 := fun _ => rfl
  unfold fmt2_t
  have hl1 : ∀ (j : Nat) (v : Int), (List.set l j v).length = l.length := fun j v => List.length_set
  simp only [Tree.holds, decide_eq_true_eq, decide_eq_false_iff_not, Bool.and_eq_true]
  refine ⟨fun hik => ?_, fun hik => ?_⟩
  · have e := q2 _ (turned_step h hik) hik
    rw [wrap64 (by omega) (by omega), wrap64 (by omega) (by omega)]
    have hs : (List.set (α := Int) l i.toNat (l.getD k.toNat 0)).length = l.length := List.length_set
    refine ⟨⟨by omega, by omega⟩, by omega, ⟨by omega, by omega⟩, by omega, ⟨by omega, by omega⟩, by omega, ⟨by omega, ?_⟩, ?_, e⟩
    · exact hs ▸ (by omega)
    · exact hs ▸ (by omega)
  · rw [turned_end h (by omega)]; exact q1

theorem fmt2_loop (n : Int) : ∀ s : S2, turned (backs n) s.l s.i s.k → RunsR Try.prog (fnOf Try.prog 39) (.str (fmt n)) (loopOf Try.prog 39 1) (slotsS 58 [(0, I64 n), (3, .int .u64 s.u), (4, .row 0), (5, I64 s.i), (6, I64 s.k)]) [some (.rows (.int .u8) s.l)] := by
  refine runsR_of (hK (l := []) trivial) (n := 1000) (hint := .unit) rfl (fun s : S2 => turned (backs n) s.l s.i s.k) (fun s => (s.k - s.i + 2).toNat) (keepS 58 [0, 3, 4, 5, 6]) (fun _ => loopOf Try.prog 39 1) (fun s => slotsS 58 [(0, I64 n), (3, .int .u64 s.u), (4, .row 0), (5, I64 s.i), (6, I64 s.k)]) (fun s => [some (.rows (.int .u8) s.l)]) (fun _ => fmt2_p) fun s hs => ?_
  rw [fmt2]
  refine fmt2_leaves hs (backs_len n).1 _ rfl fun l' hl hik => ?_
  refine ⟨slotsS_len _ _, .inl ⟨⟨s.u, l', s.i + 1, s.k - 1⟩, hl, ?_, rfl, rfl, rfl⟩⟩
  dsimp only; omega

theorem turned_start (E : List Int) : turned E E 0 ((E.length : Int) - 1) := by
  refine ⟨rfl, by omega, by omega, fun j hj => ?_⟩
  rw [if_neg (by omega)]

/-! ### The first loop: the digits -/

structure S1 where
  u : Int
  l : List Int
  k : Nat
def more (k : Nat) (u : Int) : List Int := if 0 < u then rd k u else []
def S1.inv (n : Int) (s : S1) : Prop := 0 ≤ s.u ∧ s.u < 10 ^ s.k ∧ s.k ≤ 19 ∧ s.l ++ more s.k s.u = rd 20 (size n)

theorem more_step {k : Nat} {u : Int} (h : 0 < u) (hk : u < 10 ^ k) : ∃ k', k = k' + 1 ∧ more k u = (48 + u % 10) :: more k' (u / 10) ∧ u / 10 < 10 ^ k' := by
  cases k with
  | zero => simp at hk; omega
  | succ k =>
    refine ⟨k, rfl, ?_, ?_⟩
    · unfold more; rw [if_pos h]; rfl
    · rw [Int.pow_succ] at hk; omega
theorem pow_le19 {k : Nat} (h : k ≤ 19) : (10 : Int) ^ k ≤ 10000000000000000000 := by
  have : (10 : Int) ^ k ≤ 10 ^ 19 := by
    exact_mod_cast Nat.pow_le_pow_right (by omega) h
  omega

theorem inv_len {n : Int} {s : S1} (h : s.inv n) : s.l.length ≤ 20 := by
  have := congrArg List.length h.2.2.2
  have h2 := rd_len 20 (size n)
  rw [List.length_append] at this
  omega

theorem fmt1_loop (n : Int) : ∀ s : S1, s.inv n → 0 < s.l.length → RunsR Try.prog (fnOf Try.prog 39) (.str (fmt n)) (loopOf Try.prog 39 0) (slotsS 58 [(0, I64 n), (3, .int .u64 s.u), (4, .row 0), (5, .undef), (6, .undef)]) [some (.rows (.int .u8) s.l)] := by
  intro s hs hpos
  refine runsR_of (hK (l := []) trivial) (n := 1000) (hint := .unit) rfl (fun s : S1 => s.inv n ∧ 0 < s.l.length) (fun s => s.u.toNat) (keepS 58 [0, 3, 4, 5, 6]) (fun _ => loopOf Try.prog 39 0) (fun s => slotsS 58 [(0, I64 n), (3, .int .u64 s.u), (4, .row 0), (5, .undef), (6, .undef)]) (fun s => [some (.rows (.int .u8) s.l)]) (fun _ => fmt1_p) (fun s hs => ?_) s ⟨hs, hpos⟩
  obtain ⟨hs, hpos⟩ := hs
  have hlen := inv_len hs
  obtain ⟨u, l, k⟩ := s
  obtain ⟨h0, hk, hk19, hl⟩ := hs
  dsimp only at h0 hk hk19 hl hlen hpos ⊢
  have h19 := pow_le19 hk19
  rw [fmt1]
  unfold fmt1_t
  rw [digit h0, tenth h0 (by omega)]
  simp only [Tree.holds, decide_eq_true_eq, decide_eq_false_iff_not]
  refine ⟨fun hu => ⟨by decide, ?_, by decide, slotsS_len _ _, .inl ?_⟩, fun hu => ⟨fun hn => ⟨?_, slotsS_len _ _, .inr ?_⟩, fun hn => ⟨slotsS_len _ _, .inr ?_⟩⟩⟩
  · simp; omega
  · obtain ⟨k', rfl, hm, hk'⟩ := more_step hu hk
    refine ⟨⟨u / 10, l ++ [48 + u % 10], k'⟩, ⟨⟨by dsimp only; omega, hk', by dsimp only; omega, ?_⟩, by simp⟩, ?_, by trivial, rfl, rfl⟩
    · dsimp only; rw [← hl, hm]; simp
    · dsimp only; omega
  · simp; omega
  · have hb : l ++ [45] = backs n := by
      unfold backs; rw [if_pos hn, ← hl]; unfold more; rw [if_neg hu]; simp
    have hln : ((List.length (α := Int) (l ++ [45]) : Nat) : Int) = (l.length : Int) + 1 := by simp
    have := fmt2_loop n ⟨u, l ++ [45], 0, ((backs n).length : Int) - 1⟩ (by rw [hb]; exact turned_start _)
    rw [← hb] at this
    rw [wrap64 (by omega) (by omega)]
    exact this
  · have hb : l = backs n := by
      unfold backs; rw [if_neg hn, ← hl]; unfold more; rw [if_neg hu]; simp
    have := fmt2_loop n ⟨u, l, 0, ((backs n).length : Int) - 1⟩ (by rw [hb]; exact turned_start _)
    rw [← hb] at this
    rw [wrap64 (by omega) (by omega)]
    exact this

theorem pow19 : (10 : Int) ^ 19 = 10000000000000000000 := by decide

theorem fmt2a_runs (n u d : Int) (h : backs n = [d]) : RunsR Try.prog (fnOf Try.prog 39) (.str (fmt n)) (loopOf Try.prog 39 1) (slotsS 58 [(0, I64 n), (3, .int .u64 u), (4, .arr 0 0 1), (5, I64 0), (6, I64 0)]) [some (.cells [.int .u8 d])] := by
  refine runsR_seg (hK (l := []) trivial) (n := 1000) (hint := .unit) (keep := keepS 58 [0, 3, 4, 5, 6]) (p := fmt2a_p) rfl ?_
  rw [fmt2a]
  unfold fmt2a_t fmt
  rw [h]
  first | exact rfl | (simp only [Tree.holds]; exact rfl)

theorem fmt1a_runs (n u d : Int) (h0 : 0 ≤ u) (hu : u < 10 ^ 19) (h : [d] ++ more 19 u = rd 20 (size n)) : RunsR Try.prog (fnOf Try.prog 39) (.str (fmt n)) (loopOf Try.prog 39 0) (slotsS 58 [(0, I64 n), (3, .int .u64 u), (4, .arr 0 0 1), (5, .undef), (6, .undef)]) [some (.cells [.int .u8 d])] := by
  refine runsR_seg (hK (l := []) trivial) (n := 1000) (hint := .unit) (keep := keepS 58 [0, 3, 4, 5, 6]) (p := fmt1a_p) rfl ?_
  rw [fmt1a]
  unfold fmt1a_t
  have h19 := pow19
  rw [digit h0, tenth h0 (by omega)]
  simp only [Tree.holds, decide_eq_true_eq, decide_eq_false_iff_not, Bool.and_eq_true]
  refine ⟨fun hp => ⟨by decide, by simp, by decide, slotsS_len _ _, ?_⟩, fun hp => ⟨fun hn => ⟨by simp, slotsS_len _ _, ?_⟩, fun hn => ⟨slotsS_len _ _, ?_⟩⟩⟩
  · obtain ⟨k', hk, hm, hk'⟩ := more_step hp hu
    obtain rfl : k' = 18 := by omega
    refine fmt1_loop n ⟨u / 10, [d] ++ [48 + u % 10], 18⟩ ⟨by dsimp only; omega, hk', by dsimp only; omega, ?_⟩ (by simp)
    dsimp only; rw [← h, hm]; simp
  · have hb : [d] ++ [45] = backs n := by
      unfold backs; rw [if_pos hn, ← h]; unfold more; rw [if_neg hp]; simp
    have := fmt2_loop n ⟨u, [d] ++ [45], 0, ((backs n).length : Int) - 1⟩ (by rw [hb]; exact turned_start _)
    rw [← hb] at this
    exact this
  · exact fmt2a_runs n u d (by unfold backs; rw [if_neg hn, ← h]; unfold more; rw [if_neg hp]; simp)

theorem s_fmt (n : Int) : SCall Try.prog 39 [I64 n] (.str (fmt n)) := by
  refine scallR_loops rfl rfl (by kernel_rfl) (runsR_seg (hK (l := []) trivial) (n := 1000) (hint := .unit) (keep := keepS 58 [0, 3, 4, 5, 6]) (p := fmt0_p) (boxes := []) rfl ?_)
  have e := fmt0 n
  unfold startS codeS at e
  erw [e]
  unfold fmt0_t
  have hr := size_range n
  have key : ∀ u, size n = u → RunsR Try.prog (fnOf Try.prog 39) (.str (fmt n)) (loopOf Try.prog 39 0) (slotsS 58 [(0, I64 n), (3, .int .u64 (IntKind.u64.wrap (u.tdiv 10))), (4, .arr 0 0 1), (5, .undef), (6, .undef)]) [some (.cells [.int .u8 (IntKind.u8.wrap (IntKind.u64.wrap (48 + u.tmod 10)))])] := by
    intro u hu
    rw [hu] at hr
    have h19 := pow19
    rw [digit hr.1, tenth hr.1 hr.2]
    refine fmt1a_runs n _ _ (by omega) (by omega) ?_
    rw [hu]; rfl
  simp only [Tree.holds, decide_eq_true_eq, decide_eq_false_iff_not]
  refine ⟨fun h => ⟨by decide, by decide, slotsS_len _ _, key _ (by unfold size; rw [if_pos h])⟩, fun h => ⟨by decide, by decide, slotsS_len _ _, key _ (by unfold size; rw [if_neg h])⟩⟩

/-! ### The document's way -/

structure SF where
  s : List UInt8
  u : Int
  b : Bool
  k : Nat
  P : List Int
def SF.inv (n : Int) (x : SF) : Prop := 0 ≤ x.u ∧ x.u < 10 ^ x.k ∧ x.u < 18446744073709551616 ∧ (x.b = true → 1 ≤ x.k) ∧ x.s = toB x.P.reverse ∧ x.P ++ (if x.b then rd x.k x.u else []) = rd 20 (size n)

theorem fmtR_loop (n : Int) : ∀ x : SF, x.inv n → RunsR Try.prog (fnOf Try.prog 42) (.str (fmt n)) (loopOf Try.prog 42 0) (slotsS 26 [(0, I64 n), (3, .str x.s), (4, .int .u64 x.u), (5, .bool x.b)]) [] := by
  refine runsR_of (hK (l := []) trivial) (n := 1000) (hint := .unit) rfl (fun x : SF => x.inv n) (fun x => x.k + (if x.b then 1 else 0)) (keepS 26 [0, 3, 4, 5]) (fun _ => loopOf Try.prog 42 0) (fun x => slotsS 26 [(0, I64 n), (3, .str x.s), (4, .int .u64 x.u), (5, .bool x.b)]) (fun x => []) (fun _ => fmtR1_p) (fun x hx => ?_)
  obtain ⟨s, u, b, k, P⟩ := x
  obtain ⟨h0, hk, h64, hb, hs, hP⟩ := hx
  dsimp only at h0 hk h64 hb hs hP ⊢
  have hPl : P.length ≤ 20 := by
    have := congrArg List.length hP
    have h2 := rd_len 20 (size n)
    rw [List.length_append] at this
    omega
  have hsl : s.length ≤ 20 := by rw [hs]; simpa [toB] using hPl
  rw [fmtR1]
  unfold fmtR1_t
  rw [digit h0, tenth h0 h64]
  simp only [Tree.holds, decide_eq_true_eq, decide_eq_false_iff_not]
  refine ⟨fun hbt => ⟨by decide, ?_, by decide, slotsS_len _ _, .inl ?_⟩, fun hbf => ⟨fun hn => ⟨?_, ?_⟩, fun hn => ?_⟩⟩
  · simp; omega
  · subst hbt
    obtain ⟨k', rfl⟩ : ∃ k', k = k' + 1 := ⟨k - 1, by have := hb rfl; omega⟩
    have hk2 : u / 10 < 10 ^ k' := by rw [Int.pow_succ] at hk; omega
    refine ⟨⟨_, u / 10, decide (u / 10 > 0), k', P ++ [48 + u % 10]⟩, ⟨by dsimp only; omega, hk2, by dsimp only; omega, fun hd => ?_, ?_, ?_⟩, ?_, by trivial, rfl, by trivial⟩
    · dsimp only at hd ⊢
      simp only [decide_eq_true_eq] at hd
      cases k' with
      | zero => simp at hk2; omega
      | succ k' => omega
    · dsimp only; rw [hs]; simp [toB]
    · dsimp only
      rw [← hP, if_pos rfl]
      have e : rd (k' + 1) u = (48 + u % 10) :: if 0 < u / 10 then rd k' (u / 10) else [] := rfl
      rw [e]
      simp only [decide_eq_true_eq, gt_iff_lt, List.append_assoc, List.singleton_append]
    · dsimp only
      simp
      split <;> omega
  · simp; omega
  · subst hbf
    show SV.str ([45] ++ s) = SV.str (fmt n)
    have : P = rd 20 (size n) := by rw [← hP]; simp
    rw [hs, this]
    unfold fmt backs
    rw [if_pos hn]
    simp [toB]
  · subst hbf
    show SV.str s = SV.str (fmt n)
    have : P = rd 20 (size n) := by rw [← hP]; simp
    rw [hs, this]
    unfold fmt backs
    rw [if_neg hn]
    simp [toB]

theorem s_fmtR (n : Int) : SCall Try.prog 42 [I64 n] (.str (fmt n)) := by
  refine scallR_loops rfl rfl (by kernel_rfl) (runsR_seg (hK (l := []) trivial) (n := 1000) (hint := .unit) (keep := keepS 26 [0, 3, 4, 5]) (p := fmtR0_p) (boxes := []) rfl ?_)
  have e := fmtR0 n
  unfold startS codeS at e
  erw [e]
  unfold fmtR0_t
  have hr := size_range n
  have key : ∀ u, size n = u → RunsR Try.prog (fnOf Try.prog 42) (.str (fmt n)) (loopOf Try.prog 42 0) (slotsS 26 [(0, I64 n), (3, .str []), (4, .int .u64 u), (5, .bool true)]) [] := by
    intro u hu
    rw [hu] at hr
    refine fmtR_loop n ⟨[], u, true, 20, []⟩ ⟨hr.1, ?_, hr.2, fun _ => by dsimp only; omega, rfl, ?_⟩
    · have : (10 : Int) ^ 20 = 100000000000000000000 := by decide
      dsimp only; omega
    · dsimp only; rw [hu]; simp
  simp only [Tree.holds, decide_eq_true_eq, decide_eq_false_iff_not]
  refine ⟨fun h => ⟨slotsS_len _ _, key _ (by unfold size; rw [if_pos h])⟩, fun h => ⟨slotsS_len _ _, key _ (by unfold size; rw [if_neg h])⟩⟩
def fFmt : Fact := factI 39 fun n => .leaf (.str (fmt n))
def fFmtR : Fact := factI 42 fun n => .leaf (.str (fmt n))
theorem o_fmt : fFmt.ok Try.prog := factI_ok s_fmt
theorem o_fmtR : fFmtR.ok Try.prog := factI_ok s_fmtR
end Go.Proofs.Ytibpodgdondakaa
set_option linter.unusedSimpArgs false
set_option linter.unusedVariables false
set_option maxRecDepth 100000
namespace Go.Proofs.Ytibpodgdondakaa
open Go.Sx

def least : Int := -9223372036854775808
/-- The negated number of digits, or none. -/
def pAcc : Int → List UInt8 → Option Int
  | n, [] => some n
  | n, b :: l => if n < (least + ((b.toNat : Int) - 48)).tdiv 10 then none else pAcc (10 * n - ((b.toNat : Int) - 48)) l
theorem pAcc_eq : ∀ (l : List UInt8) (n : Int), n ≤ 0 → least ≤ n → digs l = true → pAcc n l = if least ≤ -(valF (-n) l) then some (-(valF (-n) l)) else none
  | [], n, h0, h1, _ => by
    have : -(valF (-n) []) = n := by show -(-n) = n; omega
    rw [this, if_pos h1]; rfl
  | b :: l, n, h0, h1, hd => by
    simp only [digs, List.all_cons, Bool.and_eq_true] at hd
    have hb := isDig_iff.1 hd.1
    unfold pAcc
    rw [valF_cons]
    have e : 10 * -n + ((b.toNat : Int) - 48) = -(10 * n - ((b.toNat : Int) - 48)) := by omega
    rw [e]
    have ht : (least + ((b.toNat : Int) - 48)).tdiv 10 = -((-(least + ((b.toNat : Int) - 48))) / 10) := by
      rw [show least + ((b.toNat : Int) - 48) = -(-(least + ((b.toNat : Int) - 48))) by omega, Int.neg_tdiv, Int.tdiv_eq_ediv_of_nonneg (by unfold least; omega)]
      simp
    rw [ht]
    unfold least at h1 ht ⊢
    split
    · rename_i hlt
      rw [if_neg]
      have := valF_ge l (-(10 * n - ((b.toNat : Int) - 48))) (by omega) hd.2
      omega
    · rename_i hlt
      exact pAcc_eq l _ (by omega) (by unfold least; omega) hd.2
/-- Behind the digits. -/
def pEnd (f : Int) (o : Option Int) : Int × Int := match o with
  | none => (0, 3)
  | some n => if f = 1 then (n, 0) else if n = least then (0, 3) else (-n, 0)
def pRes (f : Int) (d : List UInt8) : Int × Int := if digs d then pEnd f (pAcc 0 d) else (0, 5)
def from_ (s : List UInt8) : Int := if s.head? = some 45 then 1 else 0
def parseV (s : List UInt8) : Int × Int :=
  if s.drop (from_ s).toNat = [] ∨ ((s.drop (from_ s).toNat).head? = some 48 ∧ 1 < s.length) then (0, 5) else pRes (from_ s) (s.drop (from_ s).toNat)
def pS (r : Int × Int) : SV := .tuple [I64 r.1, I64 r.2]

theorem pAcc_range : ∀ (l : List UInt8) (n : Int), n ≤ 0 → least ≤ n → digs l = true → ∀ m, pAcc n l = some m → m ≤ 0 ∧ least ≤ m := by
  intro l n h0 h1 hd m h
  rw [pAcc_eq l n h0 h1 hd] at h
  split at h
  · injection h with h
    have := valF_ge l (-n) (by omega) hd
    omega
  · cases h

structure SA where
  n : Int
  i : Int
theorem parse2_loop (s : List UInt8) (hs : small s = true) (f j : Int) (r : Int × Int) : ∀ a : SA, (0 ≤ a.i ∧ a.i ≤ s.length ∧ a.n ≤ 0 ∧ least ≤ a.n ∧ digs (s.drop a.i.toNat) = true ∧ r = pEnd f (pAcc a.n (s.drop a.i.toNat))) →
    RunsR Try.prog (fnOf Try.prog 51) (pS r) (loopOf Try.prog 51 1) (slotsS 77 [(0, .str s), (4, I64 f), (5, I64 j), (6, I64 a.n), (7, I64 a.i)]) [] := by
  rw [small_iff] at hs
  refine runsR_of (hK (l := []) trivial) (n := 1000) (hint := .unit) rfl (fun a : SA => 0 ≤ a.i ∧ a.i ≤ s.length ∧ a.n ≤ 0 ∧ least ≤ a.n ∧ digs (s.drop a.i.toNat) = true ∧ r = pEnd f (pAcc a.n (s.drop a.i.toNat))) (fun a => ((s.length : Int) - a.i).toNat) (keepS 77 [0, 4, 5, 6, 7]) (fun _ => loopOf Try.prog 51 1) (fun a => slotsS 77 [(0, .str s), (4, I64 f), (5, I64 j), (6, I64 a.n), (7, I64 a.i)]) (fun _ => []) (fun _ => parse2_p) fun a ha => ?_
  obtain ⟨n, i⟩ := a
  obtain ⟨h0, hl, hn, hn2, hd, hr⟩ := ha
  dsimp only at h0 hl hn hn2 hd hr ⊢
  rw [parse2]
  unfold parse2_t
  simp only [Tree.holds, decide_eq_true_eq, decide_eq_false_iff_not, Bool.and_eq_true, beq_iff_eq, beq_eq_false_iff_ne]
  refine ⟨fun h => ?_, fun h => ?_⟩
  · obtain ⟨b, h1, h2⟩ := bt_drop h0 h
    rw [h1] at hd hr
    simp only [digs, List.all_cons, Bool.and_eq_true] at hd
    have hb := isDig_iff.1 hd.1
    have hu : IntKind.u8.wrap ((b.toNat : Int) - 48) = (b.toNat : Int) - 48 := u8_id (by omega) (by omega)
    unfold pAcc at hr
    rw [h2, hu, wrap64 (x := (b.toNat : Int) - 48) (by omega) (by omega), wrap64 (x := -9223372036854775808 + ((b.toNat : Int) - 48)) (by omega) (by omega)]
    have ht : (least + ((b.toNat : Int) - 48)).tdiv 10 = -((-(least + ((b.toNat : Int) - 48))) / 10) := by
      rw [show least + ((b.toNat : Int) - 48) = -(-(least + ((b.toNat : Int) - 48))) by omega, Int.neg_tdiv, Int.tdiv_eq_ediv_of_nonneg (by unfold least; omega)]
      simp
    have ht' : (-9223372036854775808 + ((b.toNat : Int) - 48)).tdiv 10 = -((9223372036854775808 - ((b.toNat : Int) - 48)) / 10) := by
      have e : (-9223372036854775808 + ((b.toNat : Int) - 48)) = least + ((b.toNat : Int) - 48) := rfl
      rw [e, ht]
      unfold least
      congr 2
      omega
    rw [ht', wrap64 (x := -((9223372036854775808 - ((b.toNat : Int) - 48)) / 10)) (by omega) (by omega)]
    have ht2 : (least + ((b.toNat : Int) - 48)).tdiv 10 = -((9223372036854775808 - ((b.toNat : Int) - 48)) / 10) := ht'
    rw [ht2] at hr
    refine ⟨⟨h0, h⟩, by decide, fun c => ?_, fun c => ⟨slotsS_len _ _, .inl ?_⟩⟩
    · rw [if_pos c] at hr
      rw [hr]; rfl
    · rw [if_neg c] at hr
      unfold least at hn2
      rw [wrap64 (x := 10 * n) (by omega) (by omega), wrap64 (by omega) (by omega), wrap64 (by omega) (by omega)]
      exact ⟨⟨10 * n - ((b.toNat : Int) - 48), i + 1⟩, ⟨by dsimp only; omega, by dsimp only; omega, by dsimp only; omega, by dsimp only; unfold least; omega, hd.2, hr⟩, by dsimp only; omega, by trivial, rfl, by trivial⟩
  · have : s.drop i.toNat = [] := List.drop_eq_nil_of_le (by omega)
    rw [this] at hr
    unfold least at hn2
    refine ⟨fun c => ?_, fun c => ⟨fun c2 => ?_, fun c2 => ?_⟩⟩
    · rw [hr]; subst c; rfl
    · rw [hr]; subst c2; simp only [pAcc, pEnd]; rw [if_neg c, show least = -9223372036854775808 from rfl, if_pos rfl]; rfl
    · rw [hr]; simp only [pAcc, pEnd]; rw [if_neg c, show least = -9223372036854775808 from rfl, if_neg c2, wrap64 (by omega) (by omega)]
      show SV.tuple [I64 (0 - n), I64 0] = SV.tuple [I64 (-n), I64 0]
      rw [Int.zero_sub]

theorem parse1_loop (s : List UInt8) (hs : small s = true) (f : Int) (hf : 0 ≤ f ∧ f ≤ s.length) (r : Int × Int) : ∀ i : Int, (f ≤ i ∧ i ≤ s.length ∧ (∀ p : Nat, f ≤ p → (p : Int) < i → ∀ b, s[p]? = some b → isDig b = true) ∧ r = pRes f (s.drop f.toNat)) →
    RunsR Try.prog (fnOf Try.prog 51) (pS r) (loopOf Try.prog 51 0) (slotsS 77 [(0, .str s), (4, I64 f), (5, I64 i), (6, .undef), (7, .undef)]) [] := by
  have hs' := small_iff.1 hs
  refine runsR_of (hK (l := []) trivial) (n := 1000) (hint := .unit) rfl (fun i : Int => f ≤ i ∧ i ≤ s.length ∧ (∀ p : Nat, f ≤ p → (p : Int) < i → ∀ b, s[p]? = some b → isDig b = true) ∧ r = pRes f (s.drop f.toNat)) (fun i => ((s.length : Int) - i).toNat) (keepS 77 [0, 4, 5, 6, 7]) (fun _ => loopOf Try.prog 51 0) (fun i => slotsS 77 [(0, .str s), (4, I64 f), (5, I64 i), (6, .undef), (7, .undef)]) (fun _ => []) (fun _ => parse1_p) fun i hi => ?_
  obtain ⟨h0, hl, hp, hr⟩ := hi
  rw [parse1]
  unfold parse1_t
  simp only [Tree.holds, decide_eq_true_eq, decide_eq_false_iff_not, Bool.and_eq_true]
  have inDigs : digs (s.drop f.toNat) = true ↔ ∀ p : Nat, f ≤ p → ∀ b, s[p]? = some b → isDig b = true := by
    simp only [digs, List.all_eq_true]
    constructor
    · intro h p hp b hb
      refine h b (List.mem_of_getElem? (i := p - f.toNat) ?_)
      rw [List.getElem?_drop, show f.toNat + (p - f.toNat) = p by omega]; exact hb
    · intro h b hb
      obtain ⟨k, hk⟩ := List.getElem?_of_mem hb
      rw [List.getElem?_drop] at hk
      exact h _ (by omega) b hk
  refine ⟨fun h => ?_, fun h => ⟨slotsS_len _ _, .inr ?_⟩⟩
  · obtain ⟨b, h1, h2⟩ := bt_get (s := s) (i := i) (by omega) h
    have bad : isDig b = false → SV.tuple [I64 0, I64 5] = pS r := fun hb => by
      rw [hr]; unfold pRes
      rw [if_neg]
      · rfl
      · intro hd
        have := inDigs.1 hd i.toNat (by omega) b h1
        rw [hb] at this; cases this
    rw [h2]
    refine ⟨⟨by omega, h⟩, fun c1 => bad ?_, fun c1 => ⟨⟨by omega, h⟩, fun c2 => bad ?_, fun c2 => ⟨slotsS_len _ _, .inl ?_⟩⟩⟩
    · rw [← Bool.not_eq_true, isDig_iff]; omega
    · rw [← Bool.not_eq_true, isDig_iff]; omega
    · rw [wrap64 (by omega) (by omega)]
      refine ⟨i + 1, ⟨by omega, by omega, fun p hp1 hp2 b' hb' => ?_, hr⟩, by omega, by trivial, rfl, by trivial⟩
      by_cases hpi : (p : Int) < i
      · exact hp p hp1 hpi b' hb'
      · have : p = i.toNat := by omega
        subst this
        rw [h1] at hb'; injection hb' with hb'; subst hb'
        rw [isDig_iff]; omega
  · have hd : digs (s.drop f.toNat) = true := inDigs.2 fun p hp1 b hb => hp p hp1 (by have := (List.getElem?_eq_some_iff.1 hb).1; omega) b hb
    unfold pRes at hr
    rw [if_pos hd] at hr
    exact parse2_loop s hs f i r ⟨0, f⟩ ⟨hf.1, hf.2, by dsimp only; omega, by dsimp only; unfold least; omega, hd, hr⟩

theorem s_parse (s : List UInt8) (hs : small s = true) : SCall Try.prog 51 [.str s] (pS (parseV s)) := by
  refine scallR_loops rfl rfl (by kernel_rfl) (runsR_seg (hK (l := []) trivial) (n := 1000) (hint := .unit) (keep := keepS 77 [0, 4, 5, 6, 7]) (p := parse0_p) (boxes := []) rfl ?_)
  have e := parse0 s
  unfold startS codeS at e
  erw [e]
  unfold parse0_t
  have go : ∀ f : Int, from_ s = f → (f = 0 ∨ f = 1) → f < s.length → ¬ ((s.drop f.toNat).head? = some 48 ∧ 1 < s.length) → RunsR Try.prog (fnOf Try.prog 51) (pS (parseV s)) (loopOf Try.prog 51 0) (slotsS 77 [(0, .str s), (4, I64 f), (5, I64 f), (6, .undef), (7, .undef)]) [] := by
    intro f hf h01 hlt hh
    refine parse1_loop s hs f (by omega) _ f ⟨Int.le_refl _, by omega, fun p h1 h2 => by omega, ?_⟩
    unfold parseV
    rw [hf, if_neg]
    rintro (h | h)
    · have := congrArg List.length h
      rw [List.length_drop] at this
      simp at this; omega
    · exact hh h
  have bad : ∀ f : Int, from_ s = f → (s.drop f.toNat = [] ∨ ((s.drop f.toNat).head? = some 48 ∧ 1 < s.length)) → SV.tuple [I64 0, I64 5] = pS (parseV s) := by
    intro f hf h
    unfold parseV
    rw [hf, if_pos h]; rfl
  have hh : ∀ i : Int, 0 ≤ i → i < s.length → ((s.drop i.toNat).head? = some 48 ↔ bt s i = 48) := by
    intro i h0 h
    obtain ⟨b, h1, h2⟩ := bt_drop h0 h
    rw [h1, h2, head48]
    simp
  have h45 : 0 < s.length → (s.head? = some 45 ↔ bt s 0 = 45) := by
    intro h
    obtain ⟨b, h1, h2⟩ := bt_drop (s := s) (i := 0) (by omega) (by omega)
    have h1 : s = b :: s.drop 1 := h1
    rw [h2]
    rw [h1]
    simp only [List.head?_cons, Option.some.injEq]
    have e45 : (45 : UInt8).toNat = 45 := rfl
    exact ⟨fun h => by rw [h]; rfl, fun h => UInt8.toNat_inj.1 (by omega)⟩
  simp only [Tree.holds, decide_eq_true_eq, decide_eq_false_iff_not, Bool.and_eq_true, beq_iff_eq, beq_eq_false_iff_ne, true_and]
  refine ⟨fun hp => ⟨by omega, fun c => ?_, fun c => ?_⟩, fun hp => ?_⟩
  · have hf : from_ s = 1 := by unfold from_; rw [if_pos ((h45 (by omega)).2 c)]
    refine ⟨fun h1 => bad 1 hf (.inl (List.drop_eq_nil_of_le (by omega))), fun h1 => ⟨by omega, fun h2 => ⟨fun h3 => ?_, fun h3 => by omega⟩, fun h2 => ⟨slotsS_len _ _, ?_⟩⟩⟩
    · exact bad 1 hf (.inr ⟨(hh 1 (by omega) (by omega)).2 h2, by omega⟩)
    · exact go 1 hf (.inr rfl) (by omega) (fun h => h2 ((hh 1 (by omega) (by omega)).1 h.1))
  · have hf : from_ s = 0 := by unfold from_; rw [if_neg (fun h => c ((h45 (by omega)).1 h))]
    refine ⟨fun h1 => by omega, fun h1 => ⟨by omega, fun h2 => ⟨fun h3 => ?_, fun h3 => ⟨slotsS_len _ _, ?_⟩⟩, fun h2 => ⟨slotsS_len _ _, ?_⟩⟩⟩
    · exact bad 0 hf (.inr ⟨(hh 0 (by omega) (by omega)).2 h2, by omega⟩)
    · exact go 0 hf (.inl rfl) (by omega) (fun h => by omega)
    · exact go 0 hf (.inl rfl) (by omega) (fun h => h2 ((hh 0 (by omega) (by omega)).1 h.1))
  · have hnil : s = [] := List.eq_nil_of_length_eq_zero (by omega)
    subst hnil
    exact ⟨fun _ => rfl, fun h => absurd rfl h⟩

/-! ### Both readings -/

theorem val_pos {b : UInt8} {l : List UInt8} (hb : isDig b = true) (h48 : b ≠ 48) (hd : digs l = true) : 1 ≤ val (b :: l) := by
  have h1 := isDig_iff.1 hb
  have h2 : (b.toNat : Int) ≠ 48 := fun h => h48 (head48.1 h)
  unfold val
  rw [valF_cons]
  have := valF_ge l (10 * 0 + ((b.toNat : Int) - 48)) (by omega) hd
  omega

theorem numV_eq {M : Int} (hM : 0 ≤ M) (s : List UInt8) (v : Int) : numV M s = some v ↔ s ≠ [] ∧ lead0 s = false ∧ digs s = true ∧ val s ≤ M ∧ v = val s := by
  unfold numV
  rw [numR_eq s 0 (Int.le_refl 0) hM]
  by_cases h : s = [] ∨ lead0 s = true
  · rw [if_pos h]
    constructor
    · intro h2; cases h2
    · rintro ⟨h1, h2, _⟩
      rcases h with h | h
      · exact absurd h h1
      · rw [h] at h2; cases h2
  · rw [if_neg h]
    have h1 : s ≠ [] := fun e => h (.inl e)
    have h2 : lead0 s = false := by
      rw [← Bool.not_eq_true]; exact fun e => h (.inr e)
    by_cases hc : digs s = true ∧ valF 0 s ≤ M
    · rw [if_pos hc]
      constructor
      · intro e; injection e with e; exact ⟨h1, h2, hc.1, hc.2, e.symm⟩
      · rintro ⟨_, _, _, _, rfl⟩; rfl
    · rw [if_neg hc]
      constructor
      · intro e; cases e
      · rintro ⟨_, _, a, b, _⟩; exact absurd ⟨a, b⟩ hc

theorem parse_num {M : Int} (hM : 0 ≤ M) (hM2 : M ≤ 4398046511104) (s : List UInt8) (v : Int) : numV M s = some v ↔ (parseV s = (v, 0) ∧ 0 ≤ v ∧ v ≤ M) := by
  rw [numV_eq hM]
  cases s with
  | nil =>
    constructor
    · rintro ⟨h, _⟩; exact absurd rfl h
    · rintro ⟨h, _⟩
      have : parseV [] = (0, 5) := rfl
      rw [this] at h; injection h with _ h; cases h
  | cons b l =>
    by_cases h45 : b = 45
    · -- a minus
      subst h45
      have hf : from_ (45 :: l) = 1 := rfl
      have hdr : (45 :: l).drop (1 : Int).toNat = l := rfl
      have nd : digs (45 :: l) = false := rfl
      constructor
      · rintro ⟨_, _, h, _⟩; rw [nd] at h; cases h
      · rintro ⟨h, h0, hv⟩
        exfalso
        unfold parseV at h
        rw [hf, hdr] at h
        split at h
        · injection h with _ h; cases h
        · rename_i hn
          cases l with
          | nil => exact hn (.inl rfl)
          | cons d l =>
            have hd48 : d ≠ 48 := fun e => hn (.inr ⟨by rw [e]; rfl, by simp⟩)
            unfold pRes at h
            split at h
            · rename_i hdg
              have hdg' := hdg
              simp only [digs, List.all_cons, Bool.and_eq_true] at hdg
              have hp := val_pos hdg.1 hd48 hdg.2
              rw [pAcc_eq _ 0 (Int.le_refl 0) (by unfold least; omega) hdg'] at h
              have e0 : valF (-0) (d :: l) = val (d :: l) := rfl
              rw [e0] at h
              split at h
              · simp only [pEnd, if_true] at h
                injection h with h _
                omega
              · simp only [pEnd] at h
                injection h with _ h; cases h
            · injection h with _ h; cases h
    · have hf : from_ (b :: l) = 0 := by unfold from_; rw [if_neg (by simpa using h45)]
      have hdr : (b :: l).drop (0 : Int).toNat = b :: l := rfl
      have hl0 : lead0 (b :: l) = true ↔ (b = 48 ∧ 1 < (b :: l).length) := by
        simp [lead0]
      unfold parseV
      rw [hf, hdr]
      constructor
      · rintro ⟨_, hl, hd, hv, rfl⟩
        have hge : 0 ≤ val (b :: l) := valF_ge _ 0 (Int.le_refl 0) hd
        refine ⟨?_, hge, hv⟩
        rw [if_neg]
        · unfold pRes
          rw [if_pos hd, pAcc_eq _ 0 (Int.le_refl 0) (by unfold least; omega) hd]
          have e0 : valF (-0) (b :: l) = val (b :: l) := rfl
          rw [e0, if_pos (by unfold least; omega)]
          simp only [pEnd]
          rw [if_neg (by decide), if_neg (by unfold least; omega)]
          simp
        · rintro (h | h)
          · cases h
          · have := hl0.2 ⟨by simpa using h.1, h.2⟩
            rw [hl] at this; cases this
      · rintro ⟨h, h0, hv⟩
        split at h
        · injection h with _ h; cases h
        · rename_i hn
          unfold pRes at h
          split at h
          · rename_i hd
            rw [pAcc_eq _ 0 (Int.le_refl 0) (by unfold least; omega) hd] at h
            have e0 : valF (-0) (b :: l) = val (b :: l) := rfl
            rw [e0] at h
            have hl : lead0 (b :: l) = false := by
              rw [← Bool.not_eq_true, hl0]
              rintro ⟨e1, e2⟩
              exact hn (.inr ⟨by rw [e1]; rfl, e2⟩)
            split at h
            · simp only [pEnd] at h
              rw [if_neg (by decide)] at h
              split at h
              · injection h with _ h; cases h
              · injection h with h _
                rw [Int.neg_neg] at h
                exact ⟨by simp, hl, hd, by omega, h.symm⟩
            · simp only [pEnd] at h
              injection h with _ h; cases h
          · injection h with _ h; cases h
end Go.Proofs.Ytibpodgdondakaa
set_option linter.unusedSimpArgs false
set_option linter.unusedVariables false
set_option maxRecDepth 100000
namespace Go.Proofs.Ytibpodgdondakaa
open Go.Sx

def cutC (s : List UInt8) (c : UInt8) : Bool := decide (0 ≤ ix s c)
def cutA (s : List UInt8) (c : UInt8) : List UInt8 := if 0 ≤ ix s c then s.take (ix s c).toNat else s
def cutB (s : List UInt8) (c : UInt8) : List UInt8 := if 0 ≤ ix s c then s.drop (ix s c + 1).toNat else []
def numN (M : Int) (s : List UInt8) : Int := (numV M s).getD 0
def numO (M : Int) (s : List UInt8) : Bool := (numV M s).isSome
def preN (s : List UInt8) : Bool := s.head? == some 78
theorem numS_eq (o : Option Int) : numS o = .tuple [I64 (o.getD 0), .bool o.isSome] := by cases o <;> rfl

def fNum : Fact := ⟨47, fun args => match args with
  | [.str a, .int .i64 M] => some (.req (decide (0 ≤ M) && decide (M ≤ 4398046511104)) (.leaf (.tuple [I64 (numN M a), .bool (numO M a)])))
  | _ => none⟩
theorem o_num : fNum.ok Try.prog := fun args t ht => by
  simp only [fNum] at ht
  split at ht
  · rename_i a M
    injection ht with ht; subst ht
    intro h
    simp only [Bool.and_eq_true, decide_eq_true_eq] at h
    have := s_num a M h
    rw [numS_eq] at this
    exact this
  · cases ht
def fParse : Fact := factL 51 fun s => .leaf (.tuple [I64 (parseV s).1, I64 (parseV s).2])
theorem o_parse : fParse.ok Try.prog := factL_ok s_parse
def fCut : Fact := ⟨44, fun args => match args with
  | [.str a, .str b] => some (.req (small a) (.node (b == [42]) (.leaf (.tuple [.str (cutA a 42), .str (cutB a 42), .bool (cutC a 42)])) (.node (b == [32]) (.leaf (.tuple [.str (cutA a 32), .str (cutB a 32), .bool (cutC a 32)])) (.fail 0))))
  | _ => none⟩
def fPre : Fact := ⟨45, fun args => match args with
  | [.str a, .str b] => some (.req (small a) (.node (b == [78]) (.leaf (.bool (preN a))) (.fail 0)))
  | _ => none⟩
def fFind2 : Fact := fFind 0
theorem o_find2 : fFind2.ok Try.prog := o_find 0

theorem cutA_len (s : List UInt8) (c : UInt8) : (cutA s c).length ≤ s.length := by
  unfold cutA
  split
  · rw [List.length_take]; omega
  · exact Nat.le_refl _
theorem cutB_len (s : List UInt8) (c : UInt8) : (cutB s c).length ≤ s.length := by
  unfold cutB
  split
  · rw [List.length_drop]; omega
  · exact Nat.zero_le _

theorem numO_iff {M : Int} (hM : 0 ≤ M) (hM2 : M ≤ 4398046511104) (B : List UInt8) : numO M B = true ↔ ((parseV B).2 = 0 ∧ 0 ≤ (parseV B).1 ∧ (parseV B).1 ≤ M) := by
  unfold numO
  constructor
  · intro h
    obtain ⟨v, hv⟩ := Option.isSome_iff_exists.1 h
    obtain ⟨h1, h2, h3⟩ := (parse_num hM hM2 B v).1 hv
    rw [h1]; exact ⟨rfl, h2, h3⟩
  · rintro ⟨h1, h2, h3⟩
    have := (parse_num hM hM2 B (parseV B).1).2 ⟨by rw [← h1], h2, h3⟩
    rw [this]; rfl
theorem numN_of {M : Int} (hM : 0 ≤ M) (hM2 : M ≤ 4398046511104) {B : List UInt8} (h : numO M B = true) : numN M B = (parseV B).1 := by
  obtain ⟨h1, h2, h3⟩ := (numO_iff hM hM2 B).1 h
  have := (parse_num hM hM2 B (parseV B).1).2 ⟨by rw [← h1], h2, h3⟩
  unfold numN; rw [this]; rfl
theorem numN_not {M : Int} {B : List UInt8} (h : numO M B = false) : numN M B = 0 := by
  unfold numO at h; unfold numN
  cases hx : numV M B with
  | none => rfl
  | some v => rw [hx] at h; cases h
theorem cut_at {s : List UInt8} {c : UInt8} (h : cutC s c = true) : cutA s c = s.take (ix s c).toNat ∧ cutB s c = s.drop (ix s c + 1).toNat ∧ 0 ≤ ix s c := by
  have h : 0 ≤ ix s c := by simpa [cutC] using h
  unfold cutA cutB
  rw [if_pos h, if_pos h]
  exact ⟨rfl, rfl, h⟩
theorem small_le {s t : List UInt8} (h : t.length ≤ s.length) (hs : small s = true) : small t = true := by
  rw [small_iff] at hs ⊢; omega

theorem fmt_len (n : Int) : (fmt n).length ≤ 21 := by
  have := (backs_len n).1
  simpa [fmt, toB] using this
theorem pre_eq (b : UInt8) (l : List UInt8) : (List.take 1 (b :: l) == [78]) = preN (b :: l) := by
  show (([b] : List UInt8) == [78]) = (some b == some 78)
  by_cases h : b = 78
  · subst h; rfl
  · have h1 : (([b] : List UInt8) == [78]) = false := by rw [beq_eq_false_iff_ne]; intro e; injection e with e; exact h e
    have h2 : (some b == some (78 : UInt8)) = false := by rw [beq_eq_false_iff_ne]; intro e; injection e with e; exact h e
    rw [h1, h2]

/-- What stands before the asterisk, the checksum (in both readings), and whether there is one. -/
def hd (s : List UInt8) : List UInt8 := if cutC s 42 then cutA s 42 else []
def cN (s : List UInt8) : Int := if cutC s 42 then numN 255 (cutB s 42) else 0
def cP (s : List UInt8) : Int := if cutC s 42 then (parseV (cutB s 42)).1 else 0
def cO (s : List UInt8) : Bool := cutC s 42 && numO 255 (cutB s 42)
def MC : Int := 1099511627776
/-- The digits behind the N. -/
def dg (s : List UInt8) : List UInt8 := List.drop 1 (cutA (hd s) 32)
def goodB (s : List UInt8) : Bool := cO s && (cutC (hd s) 32 && (preN (cutA (hd s) 32) && (decide (((cutB (hd s) 32).length : Int) ≤ 96) && (plainB (cutB (hd s) 32) && (numO MC (dg s) && decide (1 ≤ numN MC (dg s)))))))
def opn (s : List UInt8) : Int × List UInt8 × Int := if goodB s then (if cN s = xr (hd s) then (numN MC (dg s), cutB (hd s) 32, 0) else (0, [], 7)) else (0, [], 5)
def frame (n : Int) (t : List UInt8) : List UInt8 × Int :=
  if n < 1 ∨ n > MC ∨ plainB t = false then ([], 1) else if (t.length : Int) > 96 then ([], 2) else ([78] ++ fmt n ++ [32] ++ t ++ [42] ++ fmt (xr ([78] ++ fmt n ++ [32] ++ t)), 0)

theorem hd_len (s : List UInt8) : (hd s).length ≤ s.length := by
  unfold hd
  split
  · exact cutA_len s 42
  · exact Nat.zero_le _
theorem cO_same {s : List UInt8} (h : cO s = true) : cN s = cP s := by
  simp only [cO, Bool.and_eq_true] at h
  unfold cN cP
  rw [h.1]
  simp only [if_true]
  exact numN_of (by omega) (by omega) h.2

theorem preN_len {s : List UInt8} (h : preN s = true) : 1 ≤ s.length := by
  cases s with
  | nil => cases h
  | cons b l => simp
theorem preN_take {s : List UInt8} {i : Nat} (hi : 1 ≤ i) (h : 0 < s.length) : preN (s.take i) = true ↔ bt s 0 = 78 := by
  cases s with
  | nil => simp at h
  | cons b l =>
    obtain ⟨k, rfl⟩ : ∃ k, i = k + 1 := ⟨i - 1, by omega⟩
    have e78 : (78 : UInt8).toNat = 78 := rfl
    rw [bt0]
    simp only [preN, List.take_succ_cons, List.head?_cons, beq_iff_eq, Option.some.injEq]
    exact ⟨fun h => by subst h; rfl, fun h => UInt8.toNat_inj.1 (by omega)⟩
end Go.Proofs.Ytibpodgdondakaa
set_option linter.unusedSimpArgs false
set_option linter.unusedVariables false
set_option maxRecDepth 100000
namespace Go.Proofs.Ytibpodgdondakaa
open Go.Sx
theorem s_cut42 (s : List UInt8)(hs : small s = true) : SCall Try.prog 44 [.str s, .str [42]] (.tuple [.str (cutA s 42), .str (cutB s 42), .bool (cutC s 42)]) :=
  scall_v mix [fIx] ⟨o_ix, trivial⟩ 1000 (.lit (.lit (.lit (.lit (.fork (.lit (.all)) (.lit (.fork (.all) (.all))))))))
   (t := .node ([42] == s)
 (.req (true && decide (0 ≤ (↑s.length : Int))) (.req (true && decide (1 ≤ (↑s.length : Int))) (.leaf (SV.tuple [SV.str (List.take 0 s), SV.str (List.drop 1 s), SV.bool true]))))
 (.req (true) (.node (decide (ix s 42 ≥ 0))
   (.req (decide (0 ≤ ix s 42) && decide (ix s 42 ≤ (↑s.length : Int))) (.req (decide (0 ≤ IntKind.i64.wrap (ix s 42 + 1)) && decide (IntKind.i64.wrap (ix s 42 + 1) ≤ (↑s.length : Int))) (.leaf (SV.tuple [SV.str (List.take (ix s 42).toNat s), SV.str (List.drop (IntKind.i64.wrap (ix s 42 + 1)).toNat s), SV.bool true]))))
   (.leaf (SV.tuple [SV.str s, SV.str [], SV.bool false])))))
   (by kernel_rfl) (by 
    have hl := ix_lt s 42
    have hg := ix_ge s 42
    have hs := small_iff.1 hs
    simp only [Tree.holds, Bool.and_eq_true, decide_eq_true_eq, decide_eq_false_iff_not, beq_iff_eq, true_and]
    refine ⟨fun h => ?_, fun h => ⟨fun h2 => ⟨⟨h2, by omega⟩, ⟨by rw [wrap64 (by omega) (by omega)]; omega, by rw [wrap64 (by omega) (by omega)]; omega⟩, ?_⟩, fun h2 => ?_⟩⟩
    · subst h; exact ⟨by decide, by decide, rfl⟩
    · rw [wrap64 (by omega) (by omega)]
      unfold cutA cutB cutC
      rw [if_pos h2, if_pos h2, decide_eq_true h2]
    · unfold cutA cutB cutC
      rw [if_neg h2, if_neg h2, decide_eq_false h2]) (by kernel_rfl) (by kernel_rfl)
theorem s_cut32 (s : List UInt8)(hs : small s = true) : SCall Try.prog 44 [.str s, .str [32]] (.tuple [.str (cutA s 32), .str (cutB s 32), .bool (cutC s 32)]) :=
  scall_v mix [fIx] ⟨o_ix, trivial⟩ 1000 (.lit (.lit (.lit (.lit (.fork (.lit (.all)) (.lit (.fork (.all) (.all))))))))
   (t := .node ([32] == s)
 (.req (true && decide (0 ≤ (↑s.length : Int))) (.req (true && decide (1 ≤ (↑s.length : Int))) (.leaf (SV.tuple [SV.str (List.take 0 s), SV.str (List.drop 1 s), SV.bool true]))))
 (.req (true) (.node (decide (ix s 32 ≥ 0))
   (.req (decide (0 ≤ ix s 32) && decide (ix s 32 ≤ (↑s.length : Int))) (.req (decide (0 ≤ IntKind.i64.wrap (ix s 32 + 1)) && decide (IntKind.i64.wrap (ix s 32 + 1) ≤ (↑s.length : Int))) (.leaf (SV.tuple [SV.str (List.take (ix s 32).toNat s), SV.str (List.drop (IntKind.i64.wrap (ix s 32 + 1)).toNat s), SV.bool true]))))
   (.leaf (SV.tuple [SV.str s, SV.str [], SV.bool false])))))
   (by kernel_rfl) (by 
    have hl := ix_lt s 32
    have hg := ix_ge s 32
    have hs := small_iff.1 hs
    simp only [Tree.holds, Bool.and_eq_true, decide_eq_true_eq, decide_eq_false_iff_not, beq_iff_eq, true_and]
    refine ⟨fun h => ?_, fun h => ⟨fun h2 => ⟨⟨h2, by omega⟩, ⟨by rw [wrap64 (by omega) (by omega)]; omega, by rw [wrap64 (by omega) (by omega)]; omega⟩, ?_⟩, fun h2 => ?_⟩⟩
    · subst h; exact ⟨by decide, by decide, rfl⟩
    · rw [wrap64 (by omega) (by omega)]
      unfold cutA cutB cutC
      rw [if_pos h2, if_pos h2, decide_eq_true h2]
    · unfold cutA cutB cutC
      rw [if_neg h2, if_neg h2, decide_eq_false h2]) (by kernel_rfl) (by kernel_rfl)
theorem s_pre (s : List UInt8)(hs : small s = true) : SCall Try.prog 45 [.str s, .str [78]] (.bool (preN s)) :=
  scall_v mix [] trivial 1000 (.fork (.lit (.lit (.lit (.lit (.lit (.lit (.all))))))) (.lit (.lit (.lit (.lit (.lit (.lit (.all))))))))
   (t := .node (decide ((↑s.length : Int) ≥ 1))
 (.req (true && decide (1 ≤ (↑s.length : Int))) (.leaf (SV.bool (List.take 1 s == [78]))))
 (.leaf (SV.bool false)))
   (by kernel_rfl) (by 
    simp only [Tree.holds, Bool.and_eq_true, decide_eq_true_eq, decide_eq_false_iff_not, true_and]
    refine ⟨fun h => ⟨h, ?_⟩, fun h => ?_⟩
    · cases s with
      | nil => simp at h
      | cons b l => rw [pre_eq]
    · have : s = [] := List.eq_nil_of_length_eq_zero (by omega)
      subst this; rfl) (by kernel_rfl) (by kernel_rfl)
theorem o_cut : fCut.ok Try.prog := fun args t ht => by
  simp only [fCut] at ht
  split at ht
  · rename_i a b
    injection ht with ht; subst ht
    refine fun hs => ⟨fun h => ?_, fun _ => ⟨fun h => ?_, fun _ => trivial⟩⟩
    · rw [beq_iff_eq] at h; subst h; exact s_cut42 a hs
    · rw [beq_iff_eq] at h; subst h; exact s_cut32 a hs
  · cases ht
theorem o_pre : fPre.ok Try.prog := fun args t ht => by
  simp only [fPre] at ht
  split at ht
  · rename_i a b
    injection ht with ht; subst ht
    refine fun hs => ⟨fun h => ?_, fun _ => trivial⟩
    rw [beq_iff_eq] at h; subst h; exact s_pre a hs
  · cases ht
theorem s_short (s : List UInt8) : SCall Try.prog 10 [.str s] (.str (s.take 120)) :=
  scall_v mix [] trivial 1000 (.fork (.all) (.all))
   (t := .node (decide ((↑s.length : Int) > 120))
 (.req (true && decide (120 ≤ (↑s.length : Int))) (.leaf (SV.str (List.take 120 s))))
 (.leaf (SV.str s)))
   (by kernel_rfl) (by 
    simp only [Tree.holds, Bool.and_eq_true, decide_eq_true_eq, decide_eq_false_iff_not, true_and]
    refine ⟨fun h => ⟨by omega, trivial⟩, fun h => ?_⟩
    rw [List.take_of_length_le (by omega)]) (by kernel_rfl) (by kernel_rfl)
theorem s_parted (s : List UInt8)(hs : small s = true) : SCall Try.prog 43 [.str s] (.tuple [.str (if cutC s 42 then cutA s 42 else []), I64 (if cutC s 42 then numN 255 (cutB s 42) else 0), .bool (cutC s 42 && numO 255 (cutB s 42))]) :=
  scall_v mix [fCut, fNum] ⟨o_cut, o_num, trivial⟩ 1000 (.lit (.fork (.all) (.all)))
   (t := .req (small s) (.node (!cutC s 42)
  (.leaf (SV.tuple [SV.str [], I64 0, SV.bool false]))
  (.req (true) (.leaf (SV.tuple [SV.str (cutA s 42), I64 (numN 255 (cutB s 42)), SV.bool (numO 255 (cutB s 42))])))))
   (by kernel_rfl) (by 
    simp only [Tree.holds, Bool.not_eq_true', Bool.not_eq_false', true_and]
    refine ⟨hs, fun h => ?_, fun h => ?_⟩
    · simp [h]
    · simp [h]) (by kernel_rfl) (by kernel_rfl)
theorem s_sendable (s : List UInt8)(hs : small s = true) : SCall Try.prog 46 [.str s] (.bool (decide ((s.length : Int) ≤ 96) && plainB s)) :=
  scall_v mix [fPlain] ⟨o_plain, trivial⟩ 1000 (.fork (.lit (.lit (.all))) (.lit (.lit (.all))))
   (t := .node (decide ((↑s.length : Int) ≤ 96))
 (.req (small s) (.leaf (SV.bool (plainB s))))
 (.leaf (SV.bool false)))
   (by kernel_rfl) (by 
    simp only [Tree.holds, decide_eq_true_eq, decide_eq_false_iff_not]
    refine ⟨fun h => ⟨hs, ?_⟩, fun h => ?_⟩
    · simp [h]
    · simp [h]) (by kernel_rfl) (by kernel_rfl)
theorem s_marked (s : List UInt8)(hs : small s = true) : SCall Try.prog 38 [.str s] (.str (s ++ [42] ++ fmt (xr s))) :=
  scall_v mix [fXor, fFmt] ⟨o_xor, o_fmt, trivial⟩ 1000 (.all)
   (t := .req (decide (((s.length + 1 : Nat) : Int) ≤ (9223372036854775807 : Int))) (.req (small s) (.req (decide ((((s ++ [42]).length + (fmt (xr s)).length : Nat) : Int) ≤ (9223372036854775807 : Int))) (.leaf (SV.str (s ++ [42] ++ fmt (xr s)))))))
   (by kernel_rfl) (by 
    have h1 := small_iff.1 hs
    have h2 := fmt_len (xr s)
    simp only [Tree.holds, decide_eq_true_eq, List.length_append, List.length_cons, List.length_nil]
    exact ⟨by omega, hs, by omega, trivial⟩) (by kernel_rfl) (by kernel_rfl)
theorem s_sealed (s : List UInt8)(hs : small s = true) : SCall Try.prog 41 [.str s] (.str (s ++ [42] ++ fmt (xr s))) :=
  scall_v mix [fXorR, fFmtR] ⟨o_xorR, o_fmtR, trivial⟩ 1000 (.all)
   (t := .req (decide (((s.length + 1 : Nat) : Int) ≤ (9223372036854775807 : Int))) (.req (small s) (.req (decide ((((s ++ [42]).length + (fmt (xr s)).length : Nat) : Int) ≤ (9223372036854775807 : Int))) (.leaf (SV.str (s ++ [42] ++ fmt (xr s)))))))
   (by kernel_rfl) (by 
    have h1 := small_iff.1 hs
    have h2 := fmt_len (xr s)
    simp only [Tree.holds, decide_eq_true_eq, List.length_append, List.length_cons, List.length_nil]
    exact ⟨by omega, hs, by omega, trivial⟩) (by kernel_rfl) (by kernel_rfl)
theorem s_split (s : List UInt8)(hs : small s = true) : SCall Try.prog 49 [.str s] (.tuple [.str (if cutC s 42 then cutA s 42 else []), I64 (if cutC s 42 then (parseV (cutB s 42)).1 else 0), .bool (cutC s 42 && numO 255 (cutB s 42))]) :=
  scall_v mix [fFind2, fParse] ⟨o_find2, o_parse, trivial⟩ 1000 (.lit (.fork (.all) (.fork (.lit (.lit (.fork (.lit (.lit (.all))) (.lit (.lit (.all)))))) (.lit (.lit (.lit (.lit (.lit (.all)))))))))
   (t := .req (small s) (.node (decide (ix s 42 < 0))
  (.leaf (SV.tuple [SV.str [], I64 0, SV.bool false]))
  (.req (decide (0 ≤ IntKind.i64.wrap (ix s 42 + 1)) && decide (IntKind.i64.wrap (ix s 42 + 1) ≤ (↑s.length : Int))) (.req (small (List.drop (IntKind.i64.wrap (ix s 42 + 1)).toNat s)) (.req (decide (0 ≤ ix s 42) && decide (ix s 42 ≤ (↑s.length : Int))) (.node ((parseV (List.drop (IntKind.i64.wrap (ix s 42 + 1)).toNat s)).snd == 0)
      (.node (decide ((parseV (List.drop (IntKind.i64.wrap (ix s 42 + 1)).toNat s)).fst ≥ 0))
       (.leaf (SV.tuple [SV.str (List.take (ix s 42).toNat s), I64 (parseV (List.drop (IntKind.i64.wrap (ix s 42 + 1)).toNat s)).fst, SV.bool (decide ((parseV (List.drop (IntKind.i64.wrap (ix s 42 + 1)).toNat s)).fst ≤ 255))]))
       (.leaf (SV.tuple [SV.str (List.take (ix s 42).toNat s), I64 (parseV (List.drop (IntKind.i64.wrap (ix s 42 + 1)).toNat s)).fst, SV.bool false])))
      (.leaf (SV.tuple [SV.str (List.take (ix s 42).toNat s), I64 (parseV (List.drop (IntKind.i64.wrap (ix s 42 + 1)).toNat s)).fst, SV.bool false]))))))))
   (by kernel_rfl) (by 
    have hl := ix_lt s 42
    have hg := ix_ge s 42
    have hs' := small_iff.1 hs
    rw [wrap64 (by omega) (by omega)]
    simp only [Tree.holds, Bool.and_eq_true, decide_eq_true_eq, decide_eq_false_iff_not, beq_iff_eq, beq_eq_false_iff_ne]
    refine ⟨hs, fun h => ?_, fun h => ⟨⟨by omega, by omega⟩, ?_, ⟨by omega, by omega⟩, ?_⟩⟩
    · have : cutC s 42 = false := by simp [cutC]; omega
      simp [this]
    · exact small_le (by rw [List.length_drop]; omega) hs
    · have hc : cutC s 42 = true := by simp [cutC]; omega
      obtain ⟨a, b, _⟩ := cut_at hc
      rw [hc, ← a, ← b]
      simp only [if_true, Bool.true_and]
      have hn := numO_iff (M := 255) (by omega) (by omega) (cutB s 42)
      have bad : ¬ ((parseV (cutB s 42)).2 = 0 ∧ 0 ≤ (parseV (cutB s 42)).1 ∧ (parseV (cutB s 42)).1 ≤ 255) → numO 255 (cutB s 42) = false := fun h => by rw [← Bool.not_eq_true, hn]; exact h
      refine ⟨fun e0 => ⟨fun e1 => ?_, fun e1 => ?_⟩, fun e0 => ?_⟩
      · by_cases e2 : (parseV (cutB s 42)).1 ≤ 255
        · rw [hn.2 ⟨e0, by omega, e2⟩, decide_eq_true e2]
        · rw [bad (fun h => e2 h.2.2), decide_eq_false e2]
      · rw [bad (fun h => e1 (by omega))]
      · rw [bad (fun h => e0 h.1)]) (by kernel_rfl) (by kernel_rfl)
def fShort : Fact := factS 10 fun s => .leaf (.str (s.take 120))
theorem o_short : fShort.ok Try.prog := factS_ok s_short
def fParted : Fact := factL 43 fun s => .leaf (.tuple [.str (hd s), I64 (cN s), .bool (cO s)])
theorem o_parted : fParted.ok Try.prog := factL_ok s_parted
def fSplit : Fact := factL 49 fun s => .leaf (.tuple [.str (hd s), I64 (cP s), .bool (cO s)])
theorem o_split : fSplit.ok Try.prog := factL_ok s_split
def fSendable : Fact := factL 46 fun s => .leaf (.bool (decide ((s.length : Int) ≤ 96) && plainB s))
theorem o_sendable : fSendable.ok Try.prog := factL_ok s_sendable
def fMarked : Fact := factL 38 fun s => .leaf (.str (s ++ [42] ++ fmt (xr s)))
theorem o_marked : fMarked.ok Try.prog := factL_ok s_marked
def fSealed : Fact := factL 41 fun s => .leaf (.str (s ++ [42] ++ fmt (xr s)))
theorem o_sealed : fSealed.ok Try.prog := factL_ok s_sealed
end Go.Proofs.Ytibpodgdondakaa
