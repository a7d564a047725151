/-
  Sx3: how the memory relation moves: a world with the same heap, a new box, a box stored into, a box let go; loads and stores of cells.
-/
import Derived.Test.YtibpodgdondakaaSx2
import Derived.Laws.CopyRow
set_option linter.unusedSimpArgs false
set_option linter.unusedVariables false
namespace Go.Sx
open Go.RowKit

theorem MRel.size_le {w0 : World} {R0 : Nat → Prop} {ρ : Rho} {w : World} {m : Mem} (h : MRel w0 R0 ρ w m) : w0.heap.size ≤ w.heap.size := h.below.size
theorem MRel.ro_lt {w0 : World} {R0 : Nat → Prop} {ρ : Rho} {w : World} {m : Mem} (h : MRel w0 R0 ρ w m) {b : Nat} (hb : RO w0 R0 ρ w m b) : b < w.heap.size := by
  rcases hb with ⟨_, h1⟩ | ⟨_, h1, _⟩
  · have := h.size_le; omega
  · exact h1
theorem MRel.ro_ne {w0 : World} {R0 : Nat → Prop} {ρ : Rho} {w : World} {m : Mem} (h : MRel w0 R0 ρ w m) {b id : Nat} {B : Box} (hb : RO w0 R0 ρ w m b) (hid : m.get id = some B) (hs : solid (ρ id) B) : (ρ id).1 ≠ b := by
  rcases hb with ⟨_, h1⟩ | ⟨_, _, h1⟩
  · have := h.lo id B hid hs; omega
  · exact h1 id B hid hs

/-- A world with the same heap (a draw, say). -/
theorem MRel.sameHeap {w0 : World} {R0 : Nat → Prop} {ρ : Rho} {w w' : World} {m : Mem} (h : MRel w0 R0 ρ w m) (hh : w'.heap = w.heap) (ho : w'.os = w.os) (ht : w'.tape = w.tape) (hp : w'.output = w.output) :
    MRel w0 R0 ρ w' m ∧ MExt w0 R0 ρ w m ρ w' m := by
  have hro : ∀ b, RO w0 R0 ρ w' m b ↔ RO w0 R0 ρ w m b := fun b => by simp only [RO, hh]
  have e : MExt w0 R0 ρ w m ρ w' m := ⟨Nat.le_refl _, fun _ _ => rfl, fun b hb => ⟨(hro b).2 hb, by rw [hh]⟩⟩
  refine ⟨⟨⟨by rw [ho, h.below.os], by rw [ht, h.below.tape], by rw [hp, h.below.output], by rw [hh]; exact h.below.size, fun k hk => by rw [hh]; exact h.below.block k hk⟩, h.lt, h.lo, by rw [hh]; exact h.hi, h.inj, fun id B hB => ?_⟩, e⟩
  exact BoxRel.mono e B (fun _ => by rw [hh]) (h.box id B hB)

theorem MRel.drew {w0 : World} {R0 : Nat → Prop} {ρ : Rho} {w : World} {m : Mem} (h : MRel w0 R0 ρ w m) : MRel w0 R0 ρ w.drew m ∧ MExt w0 R0 ρ w m ρ w.drew m := h.sameHeap rfl rfl rfl rfl

def upd (ρ : Rho) (id : Nat) (r : Nat × Nat × Nat) : Rho := fun k => if k = id then r else ρ k
theorem upd_same (ρ : Rho) (id : Nat) (r : Nat × Nat × Nat) : upd ρ id r id = r := by simp [upd]
theorem upd_other (ρ : Rho) {id k : Nat} (r : Nat × Nat × Nat) (h : k ≠ id) : upd ρ id r k = ρ k := by simp [upd, h]

/-- A table with one entry turned. -/
def MSet (m : Mem) (id : Nat) (b : Option Box) (m' : Mem) : Prop := (∀ k, m'.get k = if k = id then b else m.get k) ∧ m'.next = m.next
def MPush (m : Mem) (B : Box) (m' : Mem) : Prop := (∀ k, m'.get k = if k = m.next then some B else m.get k) ∧ m'.next = m.next + 1

/-- All that is there is there. -/
def Up (m m2 : Mem) : Prop := ∀ id B, m.get id = some B → m2.get id = some B
theorem Up.refl (m : Mem) : Up m m := fun _ _ h => h
def Box.like : Box → Box → Prop
  | .cells a, .cells b => a.length = b.length
  | .rows u l, .rows u' l' => u = u' ∧ l.length = l'.length
  | .iter _ _, .iter _ _ => True
  | _, _ => False
theorem Box.like_refl : ∀ B : Box, B.like B
  | .cells _ => rfl
  | .rows _ _ => ⟨rfl, rfl⟩
  | .iter _ _ => trivial
theorem Box.like_symm : ∀ {B C : Box}, B.like C → C.like B
  | .cells _, .cells _, h => Eq.symm h
  | .rows _ _, .rows _ _, h => ⟨h.1.symm, h.2.symm⟩
  | .iter _ _, .iter _ _, _ => trivial
theorem Box.like_trans : ∀ {B C D : Box}, B.like C → C.like D → B.like D
  | .cells _, .cells _, .cells _, h, k => Eq.trans h k
  | .rows _ _, .rows _ _, .rows _ _, h, k => ⟨h.1.trans k.1, h.2.trans k.2⟩
  | .iter _ _, .iter _ _, .iter _ _, _, _ => trivial
/-- All that is there is there in the same shape. -/
def Shape (m m2 : Mem) : Prop := ∀ id B, m.get id = some B → ∃ B', m2.get id = some B' ∧ B.like B'
theorem Shape.refl (m : Mem) : Shape m m := fun _ B h => ⟨B, h, B.like_refl⟩
theorem Shape.trans {m m1 m2 : Mem} (h : Shape m m1) (k : Shape m1 m2) : Shape m m2 := fun id B hb => by
  obtain ⟨C, h1, h2⟩ := h id B hb
  obtain ⟨D, k1, k2⟩ := k id C h1
  exact ⟨D, k1, Box.like_trans h2 k2⟩
theorem Up.shape {m m2 : Mem} (h : Up m m2) : Shape m m2 := fun id B hb => ⟨B, h id B hb, B.like_refl⟩
theorem MSet.shape {m m' : Mem} {id : Nat} {B C : Box} (hg : m.get id = some B) (h : MSet m id (some C) m') (hl : B.like C) : Shape m m' ∧ Shape m' m := by
  refine ⟨fun k D hk => ?_, fun k D hk => ?_⟩
  · rw [h.1 k]
    by_cases hki : k = id
    · subst hki; rw [hg] at hk; injection hk with hk; subst hk; exact ⟨C, by simp, hl⟩
    · exact ⟨D, by rw [if_neg hki]; exact hk, D.like_refl⟩
  · rw [h.1 k] at hk
    by_cases hki : k = id
    · subst hki; simp at hk; subst hk; exact ⟨B, hg, Box.like_symm hl⟩
    · rw [if_neg hki] at hk; exact ⟨D, hk, D.like_refl⟩
theorem MPush.up {m m' : Mem} {B : Box} (h : MPush m B m') (hn : m.get m.next = none) : Up m m' := fun k D hk => by
  rw [h.1 k]
  by_cases hki : k = m.next
  · subst hki; rw [hn] at hk; cases hk
  · rw [if_neg hki]; exact hk

theorem Mem.set_holds {α : Type} {L : α → Prop} {m : Mem} {id : Nat} {b : Option Box} {k : Mem → Tree α} (h : (m.set id b k).holds L) : ∃ m', MSet m id b m' ∧ (k m').holds L := by
  obtain ⟨t', h1, h2⟩ := holds_setT _ _ _ _ _ h
  exact ⟨⟨m.next, t'⟩, ⟨h1, rfl⟩, h2⟩
theorem Mem.push_holds {α : Type} {L : α → Prop} {m : Mem} {B : Box} {k : Mem → Nat → Tree α} (h : (m.push B k).holds L) : ∃ m', MPush m B m' ∧ (k m' m.next).holds L := by
  unfold Mem.push at h
  rw [frcN_eq] at h
  obtain ⟨t', h1, h2⟩ := holds_setT _ _ _ _ _ h
  exact ⟨⟨m.next + 1, t'⟩, ⟨h1, rfl⟩, h2⟩

theorem MRel.fresh {w0 : World} {R0 : Nat → Prop} {ρ : Rho} {w : World} {m : Mem} (h : MRel w0 R0 ρ w m) : m.get m.next = none := by
  cases hg : m.get m.next with
  | none => rfl
  | some B => exact absurd (h.lt _ B hg) (Nat.lt_irrefl _)

/-- A new box: in a block that no box has and that no datum is read from (a new one, as a rule), or without a block. -/
theorem MRel.push {w0 : World} {R0 : Nat → Prop} {ρ : Rho} {w w' : World} {m m' : Mem} {B : Box} {r : Nat × Nat × Nat} (h : MRel w0 R0 ρ w m) (hm : MPush m B m')
    (hos : w'.os = w.os) (ht : w'.tape = w.tape) (hp : w'.output = w.output) (hsz : w.heap.size ≤ w'.heap.size) (hold : ∀ k, k < w.heap.size → w'.heap[k]? = w.heap[k]?)
    (hs : solid r B → w.heap.size ≤ r.1 ∧ r.1 < w'.heap.size)
    (hB : ∀ R n ρ', Ext (RO w0 R0 ρ w m) ρ m.next w R ρ' n w' → BoxRel R ρ' n w' r B) :
    MRel w0 R0 (upd ρ m.next r) w' m' ∧ MExt w0 R0 ρ w m (upd ρ m.next r) w' m' := by
  have hle := h.size_le
  have hg : ∀ k C, m'.get k = some C → (k = m.next ∧ C = B) ∨ (k ≠ m.next ∧ m.get k = some C) := fun k C hk => by
    rw [hm.1 k] at hk
    by_cases e : k = m.next
    · rw [if_pos e] at hk; exact .inl ⟨e, by injection hk with hk; exact hk.symm⟩
    · rw [if_neg e] at hk; exact .inr ⟨e, hk⟩
  have e : MExt w0 R0 ρ w m (upd ρ m.next r) w' m' := by
    refine ⟨by rw [hm.2]; omega, fun id hid => upd_other _ _ (by omega), fun b hb => ⟨?_, hold b (h.ro_lt hb)⟩⟩
    have hlt := h.ro_lt hb
    rcases hb with hb | ⟨h1, h2, h3⟩
    · exact .inl hb
    · refine .inr ⟨h1, by omega, fun id C hid hsol => ?_⟩
      rcases hg id C hid with ⟨rfl, rfl⟩ | ⟨hne, hk⟩
      · rw [upd_same] at hsol ⊢; have := (hs hsol).1; omega
      · rw [upd_other _ _ hne] at hsol ⊢; exact h3 id C hk hsol
  refine ⟨⟨h.below.trans ⟨hos, ht, hp, hsz, fun k hk => hold k (by omega)⟩, fun id C hid => ?_, fun id C hid hsol => ?_, fun id C hid hsol => ?_, fun id id' C C' hid hid' hs1 hs2 he => ?_, fun id C hid => ?_⟩, e⟩
  · rw [hm.2]
    rcases hg id C hid with ⟨rfl, _⟩ | ⟨_, hk⟩
    · omega
    · have := h.lt id C hk; omega
  · rcases hg id C hid with ⟨rfl, rfl⟩ | ⟨hne, hk⟩
    · rw [upd_same] at hsol ⊢; have := (hs hsol).1; omega
    · rw [upd_other _ _ hne] at hsol ⊢; exact h.lo id C hk hsol
  · rcases hg id C hid with ⟨rfl, rfl⟩ | ⟨hne, hk⟩
    · rw [upd_same] at hsol ⊢; exact (hs hsol).2
    · rw [upd_other _ _ hne] at hsol ⊢; have := h.hi id C hk hsol; omega
  · rcases hg id C hid with ⟨rfl, rfl⟩ | ⟨hne, hk⟩ <;> rcases hg id' C' hid' with ⟨rfl, rfl⟩ | ⟨hne', hk'⟩
    · rfl
    · rw [upd_same] at hs1 he; rw [upd_other _ _ hne'] at hs2 he
      have := h.hi id' C' hk' hs2; have := (hs hs1).1; omega
    · rw [upd_same] at hs2 he; rw [upd_other _ _ hne] at hs1 he
      have := h.hi id C hk hs1; have := (hs hs2).1; omega
    · rw [upd_other _ _ hne] at hs1 he; rw [upd_other _ _ hne'] at hs2 he
      exact h.inj id id' C C' hk hk' hs1 hs2 he
  · rcases hg id C hid with ⟨rfl, rfl⟩ | ⟨hne, hk⟩
    · rw [upd_same]
      exact hB _ _ _ e
    · rw [upd_other _ _ hne]
      exact BoxRel.mono e C (fun hsol => hold _ (h.hi id C hk hsol)) (h.box id C hk)

theorem MRel.alloc {w0 : World} {R0 : Nat → Prop} {ρ : Rho} {w : World} {m m' : Mem} {B : Box} {o : Obj} (h : MRel w0 R0 ρ w m) (hm : MPush m B m') (len cap : Nat)
    (hB : ∀ R n ρ', Ext (RO w0 R0 ρ w m) ρ m.next w R ρ' n (w.alloc o) → BoxRel R ρ' n (w.alloc o) (w.heap.size, len, cap) B) :
    MRel w0 R0 (upd ρ m.next (w.heap.size, len, cap)) (w.alloc o) m' ∧ MExt w0 R0 ρ w m (upd ρ m.next (w.heap.size, len, cap)) (w.alloc o) m' :=
  h.push hm rfl rfl rfl (by simp) (fun k hk => Below.heap_alloc w o k hk) (fun _ => ⟨Nat.le_refl _, by simp⟩) hB

/-- A live box's block is now another object. -/
theorem MRel.setBox {w0 : World} {R0 : Nat → Prop} {ρ : Rho} {w w' : World} {m m' : Mem} {id : Nat} {B B' : Box} (h : MRel w0 R0 ρ w m) (hid : m.get id = some B) (hsol : solid (ρ id) B) (hm : MSet m id (some B') m')
    (hos : w'.os = w.os) (ht : w'.tape = w.tape) (hp : w'.output = w.output) (hsz : w'.heap.size = w.heap.size) (hoth : ∀ k, k ≠ (ρ id).1 → w'.heap[k]? = w.heap[k]?)
    (hB : ∀ R, Ext (RO w0 R0 ρ w m) ρ m.next w R ρ m.next w' → BoxRel R ρ m.next w' (ρ id) B') :
    MRel w0 R0 ρ w' m' ∧ MExt w0 R0 ρ w m ρ w' m' := by
  have hg : ∀ k C, m'.get k = some C → (k = id ∧ C = B') ∨ (k ≠ id ∧ m.get k = some C) := fun k C hk => by
    rw [hm.1 k] at hk
    by_cases e : k = id
    · rw [if_pos e] at hk; exact .inl ⟨e, by injection hk with hk; exact hk.symm⟩
    · rw [if_neg e] at hk; exact .inr ⟨e, hk⟩
  have hro : ∀ b, RO w0 R0 ρ w m b → RO w0 R0 ρ w' m' b := fun b hb => by
    rcases hb with hb | ⟨h1, h2, h3⟩
    · exact .inl hb
    · refine .inr ⟨h1, by omega, fun k C hk hs => ?_⟩
      rcases hg k C hk with ⟨rfl, _⟩ | ⟨_, hk'⟩
      · exact h3 k B hid hsol
      · exact h3 k C hk' hs
  have e : MExt w0 R0 ρ w m ρ w' m' := ⟨by rw [hm.2]; exact Nat.le_refl _, fun _ _ => rfl, fun b hb => ⟨hro b hb, hoth b fun he => h.ro_ne hb hid hsol he.symm⟩⟩
  have hlo := h.lo id B hid hsol
  refine ⟨⟨h.below.trans ⟨hos, ht, hp, by omega, fun k hk => hoth k (by omega)⟩, fun k C hk => ?_, fun k C hk hs => ?_, fun k C hk hs => ?_, fun k k' C C' hk hk' hs hs' he => ?_, fun k C hk => ?_⟩, e⟩
  · rw [hm.2]
    rcases hg k C hk with ⟨rfl, _⟩ | ⟨_, hk'⟩
    · exact h.lt k B hid
    · exact h.lt k C hk'
  · rcases hg k C hk with ⟨rfl, _⟩ | ⟨_, hk'⟩
    · exact hlo
    · exact h.lo k C hk' hs
  · rw [hsz]
    rcases hg k C hk with ⟨rfl, _⟩ | ⟨_, hk'⟩
    · exact h.hi k B hid hsol
    · exact h.hi k C hk' hs
  · have live : ∀ j D, m'.get j = some D → solid (ρ j) D → ∃ D', m.get j = some D' ∧ solid (ρ j) D' := fun j D hj hsj => by
      rcases hg j D hj with ⟨rfl, _⟩ | ⟨_, hj'⟩
      · exact ⟨B, hid, hsol⟩
      · exact ⟨D, hj', hsj⟩
    obtain ⟨D, hD, hDs⟩ := live k C hk hs
    obtain ⟨D', hD', hDs'⟩ := live k' C' hk' hs'
    exact h.inj k k' D D' hD hD' hDs hDs' he
  · rcases hg k C hk with ⟨rfl, rfl⟩ | ⟨hne, hk'⟩
    · have := hB (RO w0 R0 ρ w' m') ⟨Nat.le_refl _, e.same, e.keep⟩
      rw [hm.2]; exact this
    · exact BoxRel.mono e C (fun hs => hoth _ fun he => hne (h.inj k id C B hk' hid hs hsol he)) (h.box k C hk')

/-- A box is let go: its block may now be read as data. -/
theorem MRel.drop {w0 : World} {R0 : Nat → Prop} {ρ : Rho} {w : World} {m m' : Mem} {id : Nat} (h : MRel w0 R0 ρ w m) (hm : MSet m id none m') :
    MRel w0 R0 ρ w m' ∧ MExt w0 R0 ρ w m ρ w m' := by
  have hg : ∀ k C, m'.get k = some C → k ≠ id ∧ m.get k = some C := fun k C hk => by
    rw [hm.1 k] at hk
    by_cases e : k = id
    · rw [if_pos e] at hk; cases hk
    · rw [if_neg e] at hk; exact ⟨e, hk⟩
  have hro : ∀ b, RO w0 R0 ρ w m b → RO w0 R0 ρ w m' b := fun b hb => by
    rcases hb with hb | ⟨h1, h2, h3⟩
    · exact .inl hb
    · exact .inr ⟨h1, h2, fun k C hk => h3 k C (hg k C hk).2⟩
  have e : MExt w0 R0 ρ w m ρ w m' := ⟨by rw [hm.2]; exact Nat.le_refl _, fun _ _ => rfl, fun b hb => ⟨hro b hb, rfl⟩⟩
  exact ⟨⟨h.below, fun k C hk => by rw [hm.2]; exact h.lt k C (hg k C hk).2, fun k C hk => h.lo k C (hg k C hk).2, fun k C hk => h.hi k C (hg k C hk).2,
    fun k k' C C' hk hk' => h.inj k k' C C' (hg k C hk).2 (hg k' C' hk').2, fun k C hk => BoxRel.mono e C (fun _ => rfl) (h.box k C (hg k C hk).2)⟩, e⟩

/-! ### Lists of cells -/

section
variable {R : Nat → Prop} {ρ : Rho} {n : Nat} {w : World}

theorem RepL.length : ∀ {cs : List SV} {vs : List Value}, RepL R ρ n w cs vs → vs.length = cs.length
  | [], _, h => by rw [h]; rfl
  | _ :: _, _, h => by
    obtain ⟨u, us, rfl, _, h2⟩ := h
    simp [RepL.length h2]
theorem RepL.get : ∀ {cs : List SV} {vs : List Value}, RepL R ρ n w cs vs → ∀ {i : Nat} {c : SV}, cs[i]? = some c → ∃ v, vs[i]? = some v ∧ Rep R ρ n w c v
  | [], _, _, i, c, hi => by simp at hi
  | x :: xs, _, h, 0, c, hi => by
    obtain ⟨u, us, rfl, h1, _⟩ := h
    simp at hi; subst hi
    exact ⟨u, by simp, h1⟩
  | x :: xs, _, h, i + 1, c, hi => by
    obtain ⟨u, us, rfl, _, h2⟩ := h
    simp at hi
    obtain ⟨v, h3, h4⟩ := RepL.get h2 hi
    exact ⟨v, by simpa using h3, h4⟩
theorem RepL.mk : ∀ {cs : List SV} {vs : List Value}, vs.length = cs.length → (∀ (i : Nat) (c : SV) (v : Value), cs[i]? = some c → vs[i]? = some v → Rep R ρ n w c v) → RepL R ρ n w cs vs
  | [], vs, hl, _ => by simpa [RepL] using hl
  | c :: cs, [], hl, _ => by simp at hl
  | c :: cs, v :: vs, hl, h => ⟨v, vs, rfl, h 0 c v (by simp) (by simp), RepL.mk (by simpa using hl) fun i c' v' h1 h2 => h (i + 1) c' v' (by simpa using h1) (by simpa using h2)⟩
theorem RepL.append {as bs : List SV} {us vs : List Value} (h : RepL R ρ n w as us) (k : RepL R ρ n w bs vs) : RepL R ρ n w (as ++ bs) (us ++ vs) := by
  induction as generalizing us with
  | nil => rw [show us = [] from h]; exact k
  | cons a as ih =>
    obtain ⟨u, us, rfl, h1, h2⟩ := h
    exact ⟨u, us ++ vs, rfl, h1, ih h2⟩
theorem RepL.drop {cs : List SV} {vs : List Value} (h : RepL R ρ n w cs vs) (k : Nat) : RepL R ρ n w (cs.drop k) (vs.drop k) :=
  RepL.mk (by simp [h.length]) fun i c v h1 h2 => by
    rw [List.getElem?_drop] at h1 h2
    obtain ⟨v', h3, h4⟩ := h.get h1
    rw [h3] at h2; injection h2 with h2; exact h2 ▸ h4
theorem RepL.take {cs : List SV} {vs : List Value} (h : RepL R ρ n w cs vs) (k : Nat) : RepL R ρ n w (cs.take k) (vs.take k) :=
  RepL.mk (by simp [h.length]) fun i c v h1 h2 => by
    rw [List.getElem?_take] at h1 h2
    by_cases hi : i < k
    · rw [if_pos hi] at h1 h2
      obtain ⟨v', h3, h4⟩ := h.get h1
      rw [h3] at h2; injection h2 with h2; exact h2 ▸ h4
    · rw [if_neg hi] at h1; cases h1
theorem RepL.map (ev : Operand → SV) (eb : Operand → Value) : ∀ xs : List Operand, (∀ x ∈ xs, Rep R ρ n w (ev x) (eb x)) → RepL R ρ n w (xs.map ev) (xs.map eb)
  | [], _ => rfl
  | x :: xs, h => ⟨_, _, rfl, h x List.mem_cons_self, RepL.map ev eb xs fun y hy => h y (List.mem_cons_of_mem _ hy)⟩

/-- A datum's cells are that many, and read as its flat form. -/
theorem RepD.flat : ∀ (t : Ty) (x : t.T) (vs : List Value), RepD R w t x vs → vs.length = t.sz ∧ RepL R ρ n w (Go.Sx.flat t x) vs
  | .unit, _, vs, h => by rw [show vs = [] from h]; exact ⟨rfl, rfl⟩
  | .int _, _, vs, h => by rw [show vs = _ from h]; exact ⟨rfl, _, _, rfl, rfl, rfl⟩
  | .bool, _, vs, h => by rw [show vs = _ from h]; exact ⟨rfl, _, _, rfl, rfl, rfl⟩
  | .str, _, vs, h => by rw [show vs = _ from h]; exact ⟨rfl, _, _, rfl, rfl, rfl⟩
  | .list t, l, vs, h => by
    have h' := h
    obtain ⟨a, cap, rfl, _⟩ := h
    exact ⟨rfl, _, _, rfl, h', rfl⟩
  | .pair a b, x, vs, h => by
    obtain ⟨v1, v2, rfl, h1, h2⟩ := h
    obtain ⟨l1, r1⟩ := RepD.flat a x.1 v1 h1
    obtain ⟨l2, r2⟩ := RepD.flat b x.2 v2 h2
    exact ⟨by simp [l1, l2, Ty.sz], r1.append r2⟩
theorem flat_length : ∀ (t : Ty) (x : t.T), (Go.Sx.flat t x).length = t.sz
  | .unit, _ => rfl
  | .int _, _ => rfl
  | .bool, _ => rfl
  | .str, _ => rfl
  | .list _, _ => rfl
  | .pair a b, x => by simp [Go.Sx.flat, Ty.sz, flat_length a, flat_length b]

/-- Back: cells whose values with unknowns are read as a datum. -/
theorem RepD.unflat : ∀ (t : Ty) (cs : List SV) (x : t.T) (rest : List SV) (vs : List Value), Go.Sx.unflat t cs = some (x, rest) → RepL R ρ n w cs vs →
    ∃ v1 v2, vs = v1 ++ v2 ∧ v1.length = t.sz ∧ RepD R w t x v1 ∧ RepL R ρ n w rest v2
  | .unit, cs, x, rest, vs, he, h => by
    simp only [Go.Sx.unflat, Option.some.injEq, Prod.mk.injEq] at he
    obtain ⟨_, rfl⟩ := he
    exact ⟨[], vs, rfl, rfl, rfl, h⟩
  | .int k, cs, x, rest, vs, he, h => by
    cases cs with
    | nil => simp [Go.Sx.unflat] at he
    | cons c cs =>
      cases c <;> simp only [Go.Sx.unflat] at he <;> try (cases he; done)
      split at he
      · rename_i hk
        simp only [Option.some.injEq, Prod.mk.injEq] at he
        obtain ⟨rfl, rfl⟩ := he
        subst hk
        obtain ⟨u, us, rfl, h1, h2⟩ := h
        exact ⟨[u], us, rfl, rfl, by rw [show u = _ from h1]; rfl, h2⟩
      · cases he
  | .bool, cs, x, rest, vs, he, h => by
    cases cs with
    | nil => simp [Go.Sx.unflat] at he
    | cons c cs =>
      cases c <;> simp only [Go.Sx.unflat] at he <;> try (cases he; done)
      simp only [Option.some.injEq, Prod.mk.injEq] at he
      obtain ⟨rfl, rfl⟩ := he
      obtain ⟨u, us, rfl, h1, h2⟩ := h
      exact ⟨[u], us, rfl, rfl, by rw [show u = _ from h1]; rfl, h2⟩
  | .str, cs, x, rest, vs, he, h => by
    cases cs with
    | nil => simp [Go.Sx.unflat] at he
    | cons c cs =>
      cases c <;> simp only [Go.Sx.unflat] at he <;> try (cases he; done)
      simp only [Option.some.injEq, Prod.mk.injEq] at he
      obtain ⟨rfl, rfl⟩ := he
      obtain ⟨u, us, rfl, h1, h2⟩ := h
      exact ⟨[u], us, rfl, rfl, by rw [show u = _ from h1]; rfl, h2⟩
  | .list t, cs, x, rest, vs, he, h => by
    cases cs with
    | nil => simp [Go.Sx.unflat] at he
    | cons c cs =>
      cases c <;> simp only [Go.Sx.unflat] at he <;> try (cases he; done)
      · simp only [Option.some.injEq, Prod.mk.injEq] at he
        obtain ⟨rfl, rfl⟩ := he
        obtain ⟨u, us, rfl, h1, h2⟩ := h
        exact ⟨[u], us, rfl, rfl, ⟨none, 0, by rw [show u = _ from h1]; rfl, Nat.le_refl _, fun h0 => absurd h0 (Nat.lt_irrefl _)⟩, h2⟩
      · split at he
        · rename_i ht
          simp only [Option.some.injEq, Prod.mk.injEq] at he
          obtain ⟨rfl, rfl⟩ := he
          subst ht
          obtain ⟨u, us, rfl, h1, h2⟩ := h
          exact ⟨[u], us, rfl, rfl, h1, h2⟩
        · cases he
  | .pair a b, cs, x, rest, vs, he, h => by
    simp only [Go.Sx.unflat] at he
    cases h1 : Go.Sx.unflat a cs with
    | none => rw [h1] at he; cases he
    | some q =>
      obtain ⟨x1, cs1⟩ := q
      rw [h1] at he
      dsimp only at he
      cases h2 : Go.Sx.unflat b cs1 with
      | none => rw [h2] at he; cases he
      | some q =>
        obtain ⟨x2, cs2⟩ := q
        rw [h2] at he
        simp only [Option.some.injEq, Prod.mk.injEq] at he
        obtain ⟨rfl, rfl⟩ := he
        obtain ⟨v1, v2, rfl, l1, r1, k1⟩ := RepD.unflat a cs x1 cs1 vs h1 h
        obtain ⟨v3, v4, rfl, l2, r2, k2⟩ := RepD.unflat b cs1 x2 _ v2 h2 k1
        exact ⟨v1 ++ v3, v4, by simp, by simp [l1, l2, Ty.sz], ⟨v1, v3, rfl, r1, r2⟩, k2⟩
end
end Go.Sx
