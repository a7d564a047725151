/-
  Sx19: loops: from the head of a loop to the next, in a state of its own form; a law of descent.
-/
import Derived.Test.YtibpodgdondakaaSx18
set_option linter.unusedSimpArgs false
set_option linter.unusedVariables false
namespace Go.Sx
open Go.RowKit

mutual
/-- All names lie below. -/
def SV.under (k : Nat) : SV → Bool
  | .row id => Nat.blt id k
  | .arr id _ _ => Nat.blt id k
  | .ptr id _ => Nat.blt id k
  | .rptr id _ _ _ => Nat.blt id k
  | .agg cs => underL k cs
  | .tuple cs => underL k cs
  | .fn _ a b => underL k a && underL k b
  | _ => true
def underL (k : Nat) : List SV → Bool
  | [] => true
  | x :: xs => x.under k && underL k xs
end

def Box.under (k : Nat) : Box → Bool
  | .cells cs => underL k cs
  | _ => true

mutual
theorem Rep.lower {R R' : Nat → Prop} {ρ : Rho} {n k : Nat} {w : World} (hR : ∀ b, R b → R' b) : ∀ (x : SV) (v : Value), x.under k = true → Rep R ρ n w x v → Rep R' ρ k w x v
  | .undef, _, _, h => h
  | .top, _, _, h => trivial
  | .int _ _, _, _, h => h
  | .bool _, _, _, h => h
  | .str _, _, _, h => h
  | .nilS, _, _, h => h
  | .list t l, v, _, h => RepD.mono (fun b hb => ⟨hR b hb, rfl⟩) (.list t) l [v] h
  | .row id, _, u, h => ⟨by simpa [SV.under] using u, h.2⟩
  | .arr id _ _, _, u, h => ⟨by simpa [SV.under] using u, h.2⟩
  | .ptr id _, _, u, h => ⟨by simpa [SV.under] using u, h.2⟩
  | .nilP, _, _, h => h
  | .eptr t l i off, v, _, h => by
    obtain ⟨b, o, h1, h2, h3⟩ := h
    exact ⟨b, o, h1, h2, h3.mono fun b hb => ⟨hR b hb, rfl⟩⟩
  | .rptr id _ _ _, _, u, h => ⟨by simpa [SV.under] using u, h.2⟩
  | .agg cs, v, u, h => by
    obtain ⟨vs, h1, h2⟩ := h
    exact ⟨vs, h1, RepL.lower hR cs vs u h2⟩
  | .tuple cs, v, u, h => by
    obtain ⟨vs, h1, h2⟩ := h
    exact ⟨vs, h1, RepL.lower hR cs vs u h2⟩
  | .fn f first cap, v, u, h => by
    obtain ⟨vs, us, h1, h2, h3⟩ := h
    have u' : underL k first = true ∧ underL k cap = true := by simpa [SV.under] using u
    exact ⟨vs, us, h1, RepL.lower hR first vs u'.1 h2, RepL.lower hR cap us u'.2 h3⟩
  | .raw _, _, _, h => h
theorem RepL.lower {R R' : Nat → Prop} {ρ : Rho} {n k : Nat} {w : World} (hR : ∀ b, R b → R' b) : ∀ (xs : List SV) (vs : List Value), underL k xs = true → RepL R ρ n w xs vs → RepL R' ρ k w xs vs
  | [], _, _, h => h
  | x :: xs, vs, u, h => by
    obtain ⟨v, us, h1, h2, h3⟩ := h
    have u' : x.under k = true ∧ underL k xs = true := by simpa [underL] using u
    exact ⟨v, us, h1, Rep.lower hR x v u'.1 h2, RepL.lower hR xs us u'.2 h3⟩
end

theorem BoxRel.lower {R R' : Nat → Prop} {ρ : Rho} {n k : Nat} {w : World} {r : Nat × Nat × Nat} (hR : ∀ b, R b → R' b) : ∀ (B : Box), B.under k = true → BoxRel R ρ n w r B → BoxRel R' ρ k w r B
  | .cells cs, u, h => by
    obtain ⟨arr, e, fr, h1, h2, h3⟩ := h
    exact ⟨arr, e, fr, h1, h2, RepL.lower hR _ _ u h3⟩
  | .rows t l, _, h => by
    obtain ⟨h1, h2, h3⟩ := h
    refine ⟨h1, h2, fun h0 => ?_⟩
    obtain ⟨arr, e, fr, k1, k2, k3, k4⟩ := h3 h0
    refine ⟨arr, e, fr, k1, k2, k3, fun i hi => ?_⟩
    obtain ⟨cs, c1, c2, c3⟩ := k4 i hi
    exact ⟨cs, c1, c2, RepD.mono (fun b hb => ⟨hR b hb, rfl⟩) _ _ _ c3⟩
  | .iter s pos, _, h => h

/-- What is kept of a frame. -/
noncomputable def viewS (fr : Fr) : List Bool → Nat → List SV
  | [], _ => []
  | true :: ks, t => fr.get t :: viewS fr ks (t + 1)
  | false :: ks, t => .top :: viewS fr ks (t + 1)

/-- What is kept of a memory. -/
noncomputable def viewM (m : Mem) : List Bool → Nat → List (Option Box)
  | [], _ => []
  | true :: ks, t => m.get t :: viewM m ks (t + 1)
  | false :: ks, t => none :: viewM m ks (t + 1)

theorem viewS_get (fr : Fr) : ∀ (ks : List Bool) (t i : Nat) (x : SV), (viewS fr ks t)[i]? = some x → x = .top ∨ x = fr.get (t + i)
  | [], _, _, _, h => by simp [viewS] at h
  | true :: ks, t, 0, x, h => by simp [viewS] at h; exact .inr h.symm
  | false :: ks, t, 0, x, h => by simp [viewS] at h; exact .inl h.symm
  | true :: ks, t, i + 1, x, h => by
    have := viewS_get fr ks (t + 1) i x (by simpa [viewS] using h)
    rwa [show t + (i + 1) = t + 1 + i by omega]
  | false :: ks, t, i + 1, x, h => by
    have := viewS_get fr ks (t + 1) i x (by simpa [viewS] using h)
    rwa [show t + (i + 1) = t + 1 + i by omega]
theorem viewS_length (fr : Fr) : ∀ (ks : List Bool) (t : Nat), (viewS fr ks t).length = ks.length
  | [], _ => rfl
  | true :: ks, t => by simp [viewS, viewS_length fr ks]
  | false :: ks, t => by simp [viewS, viewS_length fr ks]
theorem viewM_get (m : Mem) : ∀ (ks : List Bool) (t i : Nat) (x : Box), (viewM m ks t)[i]? = some (some x) → m.get (t + i) = some x
  | [], _, _, _, h => by simp [viewM] at h
  | true :: ks, t, 0, x, h => by simp [viewM] at h; exact h
  | false :: ks, t, 0, x, h => by simp [viewM] at h
  | true :: ks, t, i + 1, x, h => by
    have := viewM_get m ks (t + 1) i x (by simpa [viewM] using h)
    rwa [show t + (i + 1) = t + 1 + i by omega]
  | false :: ks, t, i + 1, x, h => by
    have := viewM_get m ks (t + 1) i x (by simpa [viewM] using h)
    rwa [show t + (i + 1) = t + 1 + i by omega]

/-- A state of this form. -/
structure Canon (slots : List SV) (boxes : List (Option Box)) (fr : Fr) (m : Mem) : Prop where
  size : fr.size = slots.length
  get : ∀ t, fr.get t = slots.getD t .undef
  next : m.next = boxes.length
  box : ∀ id, m.get id = (boxes[id]?).join

def underO (k : Nat) : List (Option Box) → Bool
  | [] => true
  | some b :: l => b.under k && underO k l
  | none :: l => underO k l

theorem underL_get {k : Nat} : ∀ {l : List SV} {i : Nat} {x : SV}, underL k l = true → l[i]? = some x → x.under k = true
  | [], _, _, _, h => by simp at h
  | y :: l, 0, x, u, h => by
    have u' : y.under k = true ∧ underL k l = true := by simpa [underL] using u
    simp at h; subst h; exact u'.1
  | y :: l, i + 1, x, u, h => by
    have u' : y.under k = true ∧ underL k l = true := by simpa [underL] using u
    exact underL_get u'.2 (by simpa using h)
theorem underO_get {k : Nat} : ∀ {l : List (Option Box)} {i : Nat} {x : Box}, underO k l = true → l[i]? = some (some x) → x.under k = true
  | [], _, _, _, h => by simp at h
  | none :: l, 0, x, u, h => by simp at h
  | some y :: l, 0, x, u, h => by
    have u' : y.under k = true ∧ underO k l = true := by simpa [underO] using u
    simp at h; subst h; exact u'.1
  | none :: l, i + 1, x, u, h => underO_get (l := l) (by simpa [underO] using u) (by simpa using h)
  | some y :: l, i + 1, x, u, h => by
    have u' : y.under k = true ∧ underO k l = true := by simpa [underO] using u
    exact underO_get u'.2 (by simpa using h)

/-- A state is also what is left of it. -/
theorem SRel.weaken {w0 : World} {R0 : Nat → Prop} {ρ : Rho} {w : World} {fr fr2 : Fr} {m m2 : Mem} {a : Act} {slots : List SV} {boxes : List (Option Box)} (h : SRel w0 R0 ρ w fr m a) (hc : Canon slots boxes fr2 m2)
    (hlen : slots.length = fr.size) (hs : ∀ (i : Nat) (x : SV), slots[i]? = some x → x = .top ∨ x = fr.get i) (hb : ∀ (i : Nat) (B : Box), boxes[i]? = some (some B) → m.get i = some B)
    (us : underL boxes.length slots = true) (ub : underO boxes.length boxes = true) : SRel w0 R0 ρ w fr2 m2 a ∧ ∀ b, RO w0 R0 ρ w m b → RO w0 R0 ρ w m2 b := by
  obtain ⟨h1, h2, h3⟩ := h
  have hg : ∀ id B, m2.get id = some B → boxes[id]? = some (some B) ∧ m.get id = some B := fun id B hB => by
    rw [hc.box id] at hB
    have : boxes[id]? = some (some B) := by
      cases hx : boxes[id]? with
      | none => rw [hx] at hB; cases hB
      | some y => rw [hx] at hB; simp at hB; rw [hB]
    exact ⟨this, hb id B this⟩
  have hro : ∀ b, RO w0 R0 ρ w m b → RO w0 R0 ρ w m2 b := fun b hb => by
    rcases hb with hb | ⟨k1, k2, k3⟩
    · exact .inl hb
    · exact .inr ⟨k1, k2, fun id B hB => k3 id B (hg id B hB).2⟩
  refine ⟨⟨⟨h1.below, fun id B hB => ?_, fun id B hB => h1.lo id B (hg id B hB).2, fun id B hB => h1.hi id B (hg id B hB).2, fun id id' B B' hB hB' => h1.inj id id' B B' (hg id B hB).2 (hg id' B' hB').2, fun id B hB => ?_⟩, ⟨?_, fun t => ?_⟩, h3⟩, hro⟩
  · rw [hc.next]
    have := (hg id B hB).1
    exact (List.getElem?_eq_some_iff.mp this).1
  · rw [hc.next]
    exact BoxRel.lower hro B (underO_get ub (hg id B hB).1) (h1.box id B (hg id B hB).2)
  · rw [hc.size, hlen]; exact h2.1
  · rw [hc.get t, hc.next]
    rw [List.getD_eq_getElem?_getD]
    cases hx : slots[t]? with
    | none =>
      have ht : slots.length ≤ t := by simpa using hx
      have : a.tmps.getD t Go.undef = Go.undef := by
        rw [Array.getD_eq_getD_getElem?, Array.getElem?_eq_none (by rw [← h2.1, ← hlen]; exact ht)]
        rfl
      rw [this]; exact rfl
    | some x =>
      rcases hs t x hx with rfl | rfl
      · exact trivial
      · exact Rep.lower hro _ _ (underL_get us hx) (h2.2 t)

theorem Reach.weaken {P : Program} {items items' : List Item} {fr fr1 fr2 : Fr} {m m1 m2 : Mem} {slots : List SV} {boxes : List (Option Box)} (h : Reach P items fr m (.stop items' fr1 m1)) (hc : Canon slots boxes fr2 m2)
    (hlen : slots.length = fr1.size) (hs : ∀ (i : Nat) (x : SV), slots[i]? = some x → x = .top ∨ x = fr1.get i) (hb : ∀ (i : Nat) (B : Box), boxes[i]? = some (some B) → m1.get i = some B)
    (us : underL boxes.length slots = true) (ub : underO boxes.length boxes = true) (hn : m.next ≤ boxes.length) : Reach P items fr m (.stop items' fr2 m2) := by
  intro w0 R0 ρ w a hsr b cs
  obtain ⟨ρ1, w1, a1, g1, g2, g3⟩ := h w0 R0 ρ w a hsr b cs
  obtain ⟨k1, k2⟩ := g1.weaken hc hlen hs hb us ub
  exact ⟨ρ1, w1, a1, k1, ⟨by rw [hc.next]; exact hn, g2.same, fun b hb => ⟨k2 b (g2.keep b hb).1, (g2.keep b hb).2⟩⟩, g3⟩

/-! ### Segments -/

inductive Stop where
  | done (v : SV)
  | at (items : List Item) (size : Nat) (slots : List SV) (boxes : List (Option Box))

noncomputable def memFill {α : Type} : List (Option Box) → Mem → (Mem → Tree α) → Tree α
  | [], m, k => k m
  | some B :: l, m, k => m.push B fun m _ => memFill l m k
  | none :: l, m, k => memFill l ⟨m.next + 1, m.tb⟩ k

theorem memFill_holds {α : Type} {L : α → Prop} : ∀ (l : List (Option Box)) (m : Mem) (k : Mem → Tree α), (memFill l m k).holds L → (∀ id, m.next ≤ id → m.get id = none) →
    ∃ m', (k m').holds L ∧ m'.next = m.next + l.length ∧ (∀ id, id < m.next → m'.get id = m.get id) ∧ ∀ id, m'.get (m.next + id) = (l[id]?).join
  | [], m, k, h, hf => ⟨m, h, rfl, fun _ _ => rfl, fun id => by simpa using hf (m.next + id) (by omega)⟩
  | none :: l, m, k, h, hf => by
    obtain ⟨m', h1, h2, h3, h4⟩ := memFill_holds l ⟨m.next + 1, m.tb⟩ k h fun id hid => hf id (by dsimp only at hid; omega)
    refine ⟨m', h1, by rw [h2]; simp; omega, fun id hid => h3 id (by dsimp only; omega), fun id => ?_⟩
    cases id with
    | zero =>
      rw [h3 (m.next + 0) (by dsimp only; omega)]
      simpa [Mem.get] using hf m.next (Nat.le_refl _)
    | succ id =>
      have := h4 id
      dsimp only at this
      rw [show m.next + (id + 1) = m.next + 1 + id by omega, this]
      simp
  | some B :: l, m, k, h, hf => by
    obtain ⟨m1, hp, h0⟩ := Mem.push_holds (k := fun m _ => memFill l m k) h
    obtain ⟨m', h1, h2, h3, h4⟩ := memFill_holds l m1 k h0 fun id hid => by
      rw [hp.2] at hid
      rw [hp.1 id, if_neg (by omega)]
      exact hf id (by omega)
    rw [hp.2] at h2 h3 h4
    refine ⟨m', h1, by rw [h2]; simp; omega, fun id hid => ?_, fun id => ?_⟩
    · rw [h3 id (by omega), hp.1 id, if_neg (by omega)]
    · cases id with
      | zero =>
        rw [h3 (m.next + 0) (by omega), hp.1]
        simp
      | succ id =>
        rw [show m.next + (id + 1) = m.next + 1 + id by omega, h4 id]
        simp
end Go.Sx
