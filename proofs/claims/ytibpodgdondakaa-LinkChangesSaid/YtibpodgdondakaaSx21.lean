/-
  Sx21: loops over a memory that grows: at the head of a loop the boxes are named anew, in the order in which the slots name them; rows that are handed back become data.
-/
import Derived.Test.YtibpodgdondakaaSx20
set_option linter.unusedSimpArgs false
set_option linter.unusedVariables false
namespace Go.Sx
open Go.RowKit

def idx : List Nat → Nat → Option Nat
  | [], _ => none
  | x :: l, k => match Nat.beq x k with
    | true => some 0
    | false => match idx l k with
      | some j => some (j + 1)
      | none => none

theorem idx_get : ∀ {l : List Nat} {k j : Nat}, idx l k = some j → l[j]? = some k
  | x :: l, k, j, h => by
    unfold idx at h
    split at h
    · rename_i hx
      injection h with h; subst h
      simp [Nat.eq_of_beq_eq_true hx]
    · split at h
      · rename_i j' hj
        injection h with h; subst h
        simpa using idx_get hj
      · cases h

mutual
/-- A value with its boxes named anew. -/
def ren (ids : List Nat) : SV → SV
  | .row id => match idx ids id with | some k => .row k | none => .top
  | .arr id o n => match idx ids id with | some k => .arr k o n | none => .top
  | .ptr id o => match idx ids id with | some k => .ptr k o | none => .top
  | .rptr id z i o => match idx ids id with | some k => .rptr k z i o | none => .top
  | .agg cs => .agg (renL ids cs)
  | .tuple cs => .tuple (renL ids cs)
  | .fn f a b => .fn f (renL ids a) (renL ids b)
  | v => v
def renL (ids : List Nat) : List SV → List SV
  | [] => []
  | x :: xs => ren ids x :: renL ids xs
end

def renB (ids : List Nat) : Box → Box
  | .cells cs => .cells (renL ids cs)
  | .rows t l => .rows t l
  | .iter s p => .iter s p

def addId (id : Nat) (l : List Nat) : List Nat := match idx l id with
  | some _ => l
  | none => l ++ [id]
mutual
/-- The boxes that a value names, behind those of the list. -/
def idsV : SV → List Nat → List Nat
  | .row id, l => addId id l
  | .arr id _ _, l => addId id l
  | .ptr id _, l => addId id l
  | .rptr id _ _ _, l => addId id l
  | .agg cs, l => idsL cs l
  | .tuple cs, l => idsL cs l
  | .fn _ a b, l => idsL b (idsL a l)
  | _, l => l
def idsL : List SV → List Nat → List Nat
  | [], l => l
  | x :: xs, l => idsL xs (idsV x l)
end
noncomputable def idsM (m : Mem) : List Nat → List Nat → List Nat
  | [], l => l
  | id :: r, l => idsM m r (match m.get id with
    | some (.cells cs) => idsL cs l
    | _ => l)
noncomputable def live (m : Mem) (slots : List SV) : List Nat :=
  let l := idsL slots []
  let l := idsM m l l
  idsM m l l

def nodupB : List Nat → Bool
  | [] => true
  | x :: l => (match idx l x with | some _ => false | none => true) && nodupB l
theorem idx_none : ∀ {l : List Nat} {k : Nat}, idx l k = none → k ∉ l
  | [], _, _ => List.not_mem_nil
  | x :: l, k, h => by
    unfold idx at h
    split at h
    · cases h
    · rename_i hx
      split at h
      · cases h
      · rename_i hj
        intro hm
        cases hm with
        | head => simp at hx
        | tail _ hm => exact idx_none hj hm
theorem nodupB_spec : ∀ {l : List Nat}, nodupB l = true → l.Nodup
  | [], _ => List.nodup_nil
  | x :: l, h => by
    simp only [nodupB, Bool.and_eq_true] at h
    refine List.nodup_cons.2 ⟨?_, nodupB_spec h.2⟩
    have h1 := h.1
    split at h1
    · cases h1
    · rename_i hx; exact idx_none hx

section
variable {R R' : Nat → Prop} {ρ ρ' : Rho} {n n' : Nat} {w : World} {ids : List Nat}
mutual
theorem Rep.ren (hR : ∀ b, R b → R' b) (hρ : ∀ id k, idx ids id = some k → k < n' ∧ ρ' k = ρ id) : ∀ (x : SV) (v : Value), Rep R ρ n w x v → Rep R' ρ' n' w (Go.Sx.ren ids x) v
  | .undef, _, h => h
  | .top, _, h => trivial
  | .int _ _, _, h => h
  | .bool _, _, h => h
  | .str _, _, h => h
  | .nilS, _, h => h
  | .list t l, v, h => RepD.mono (fun b hb => ⟨hR b hb, rfl⟩) (.list t) l [v] h
  | .row id, v, h => by
    unfold Go.Sx.ren
    split
    · rename_i k hk
      obtain ⟨h1, h2⟩ := hρ id k hk
      obtain ⟨_, h⟩ := h
      exact ⟨h1, by rw [h2]; exact h⟩
    · trivial
  | .arr id _ _, v, h => by
    unfold Go.Sx.ren
    split
    · rename_i k hk
      obtain ⟨h1, h2⟩ := hρ id k hk
      exact ⟨h1, by rw [h2]; exact h.2⟩
    · trivial
  | .ptr id _, v, h => by
    unfold Go.Sx.ren
    split
    · rename_i k hk
      obtain ⟨h1, h2⟩ := hρ id k hk
      exact ⟨h1, by rw [h2]; exact h.2⟩
    · trivial
  | .nilP, _, h => h
  | .eptr t l i off, v, h => by
    obtain ⟨b, o, h1, h2, h3⟩ := h
    exact ⟨b, o, h1, h2, h3.mono fun b hb => ⟨hR b hb, rfl⟩⟩
  | .rptr id _ _ _, v, h => by
    unfold Go.Sx.ren
    split
    · rename_i k hk
      obtain ⟨h1, h2⟩ := hρ id k hk
      exact ⟨h1, by rw [h2]; exact h.2⟩
    · trivial
  | .agg cs, v, h => by
    obtain ⟨vs, h1, h2⟩ := h
    exact ⟨vs, h1, RepL.ren hR hρ cs vs h2⟩
  | .tuple cs, v, h => by
    obtain ⟨vs, h1, h2⟩ := h
    exact ⟨vs, h1, RepL.ren hR hρ cs vs h2⟩
  | .fn f first cap, v, h => by
    obtain ⟨vs, us, h1, h2, h3⟩ := h
    exact ⟨vs, us, h1, RepL.ren hR hρ first vs h2, RepL.ren hR hρ cap us h3⟩
  | .raw _, _, h => h
theorem RepL.ren (hR : ∀ b, R b → R' b) (hρ : ∀ id k, idx ids id = some k → k < n' ∧ ρ' k = ρ id) : ∀ (xs : List SV) (vs : List Value), RepL R ρ n w xs vs → RepL R' ρ' n' w (Go.Sx.renL ids xs) vs
  | [], _, h => h
  | x :: xs, vs, h => by
    obtain ⟨v, us, h1, h2, h3⟩ := h
    exact ⟨v, us, h1, Rep.ren hR hρ x v h2, RepL.ren hR hρ xs us h3⟩
end

theorem BoxRel.ren (hR : ∀ b, R b → R' b) (hρ : ∀ id k, idx ids id = some k → k < n' ∧ ρ' k = ρ id) {r : Nat × Nat × Nat} : ∀ (B : Box), BoxRel R ρ n w r B → BoxRel R' ρ' n' w r (renB ids B)
  | .cells cs, h => by
    obtain ⟨arr, e, fr, h1, h2, h3⟩ := h
    exact ⟨arr, e, fr, h1, h2, RepL.ren hR hρ _ _ h3⟩
  | .rows t l, h => by
    obtain ⟨h1, h2, h3⟩ := h
    refine ⟨h1, h2, fun h0 => ?_⟩
    obtain ⟨arr, e, fr, k1, k2, k3, k4⟩ := h3 h0
    refine ⟨arr, e, fr, k1, k2, k3, fun i hi => ?_⟩
    obtain ⟨cs, c1, c2, c3⟩ := k4 i hi
    exact ⟨cs, c1, c2, RepD.mono (fun b hb => ⟨hR b hb, rfl⟩) _ _ _ c3⟩
  | .iter s pos, h => h
end

theorem solid_ren {r : Nat × Nat × Nat} {ids : List Nat} : ∀ (B : Box), solid r (renB ids B) ↔ solid r B
  | .cells _ => Iff.rfl
  | .rows _ _ => Iff.rfl
  | .iter _ _ => Iff.rfl

theorem getD_renL (ids : List Nat) : ∀ (l : List SV) (t : Nat), (renL ids l).getD t .undef = ren ids (l.getD t .undef)
  | [], t => by cases t <;> rfl
  | x :: l, 0 => rfl
  | x :: l, t + 1 => by
    have := getD_renL ids l t
    simpa [renL] using this

theorem nodup_inj : ∀ {l : List Nat}, l.Nodup → ∀ (i j : Nat) (x : Nat), l[i]? = some x → l[j]? = some x → i = j
  | [], _, i, j, x, h, _ => by simp at h
  | y :: l, hn, i, j, x, hi, hj => by
    rw [List.nodup_cons] at hn
    cases i with
    | zero =>
      cases j with
      | zero => rfl
      | succ j =>
        simp at hi hj; subst hi
        exact absurd (List.mem_of_getElem? hj) hn.1
    | succ i =>
      cases j with
      | zero =>
        simp at hi hj; subst hj
        exact absurd (List.mem_of_getElem? hi) hn.1
      | succ j => rw [nodup_inj hn.2 i j x (by simpa using hi) (by simpa using hj)]

/-- A state is also what is left of it, with its boxes named anew. -/
theorem SRel.rename {w0 : World} {R0 : Nat → Prop} {ρ : Rho} {w : World} {fr fr2 : Fr} {m m2 : Mem} {a : Act} {slots : List SV} {ids : List Nat} (h : SRel w0 R0 ρ w fr m a) (hn : ids.Nodup)
    (hc : Canon (renL ids slots) (ids.map fun id => (m.get id).map (renB ids)) fr2 m2) (hlen : slots.length = fr.size) (hs : ∀ (i : Nat) (x : SV), slots[i]? = some x → x = .top ∨ x = fr.get i) :
    SRel w0 R0 (fun k => ρ (ids.getD k 0)) w fr2 m2 a ∧ ∀ b, RO w0 R0 ρ w m b → RO w0 R0 (fun k => ρ (ids.getD k 0)) w m2 b := by
  obtain ⟨h1, h2, h3⟩ := h
  have hg : ∀ k B, m2.get k = some B → ∃ id B0, ids[k]? = some id ∧ m.get id = some B0 ∧ B = renB ids B0 := fun k B hB => by
    rw [hc.box k] at hB
    simp only [List.getElem?_map] at hB
    cases hx : ids[k]? with
    | none => rw [hx] at hB; cases hB
    | some id =>
      rw [hx] at hB
      cases hy : m.get id with
      | none => simp [hy] at hB
      | some B0 => simp [hy] at hB; exact ⟨id, B0, rfl, hy, hB.symm⟩
  have hρk : ∀ k id, ids[k]? = some id → ρ (ids.getD k 0) = ρ id := fun k id hk => by rw [List.getD_eq_getElem?_getD, hk]; rfl
  have hρ : ∀ id k, idx ids id = some k → k < m2.next ∧ (fun k => ρ (ids.getD k 0)) k = ρ id := fun id k hk => by
    have := idx_get hk
    refine ⟨?_, hρk k id this⟩
    rw [hc.next]
    simpa using (List.getElem?_eq_some_iff.1 this).1
  have hro : ∀ b, RO w0 R0 ρ w m b → RO w0 R0 (fun k => ρ (ids.getD k 0)) w m2 b := fun b hb => by
    rcases hb with hb | ⟨k1, k2, k3⟩
    · exact .inl hb
    · refine .inr ⟨k1, k2, fun k B hB hsol => ?_⟩
      obtain ⟨id, B0, g1, g2, rfl⟩ := hg k B hB
      dsimp only at hsol ⊢
      rw [hρk k id g1] at hsol ⊢
      exact k3 id B0 g2 ((solid_ren B0).1 hsol)
  refine ⟨⟨⟨h1.below, fun k B hB => ?_, fun k B hB hsol => ?_, fun k B hB hsol => ?_, fun k k' B B' hB hB' hsol hsol' heq => ?_, fun k B hB => ?_⟩, ⟨?_, fun t => ?_⟩, h3⟩, hro⟩
  · obtain ⟨id, B0, g1, g2, rfl⟩ := hg k B hB
    rw [hc.next]
    simpa using (List.getElem?_eq_some_iff.1 g1).1
  · obtain ⟨id, B0, g1, g2, rfl⟩ := hg k B hB
    rw [hρk k id g1] at hsol ⊢
    exact h1.lo id B0 g2 ((solid_ren B0).1 hsol)
  · obtain ⟨id, B0, g1, g2, rfl⟩ := hg k B hB
    rw [hρk k id g1] at hsol ⊢
    exact h1.hi id B0 g2 ((solid_ren B0).1 hsol)
  · obtain ⟨id, B0, g1, g2, rfl⟩ := hg k B hB
    obtain ⟨id', B0', g1', g2', rfl⟩ := hg k' B' hB'
    rw [hρk k id g1] at hsol heq
    rw [hρk k' id' g1'] at hsol' heq
    have := h1.inj id id' B0 B0' g2 g2' ((solid_ren B0).1 hsol) ((solid_ren B0').1 hsol') heq
    subst this
    exact nodup_inj hn k k' id g1 g1'
  · obtain ⟨id, B0, g1, g2, rfl⟩ := hg k B hB
    rw [hρk k id g1]
    exact BoxRel.ren hro hρ B0 (h1.box id B0 g2)
  · rw [hc.size, show (renL ids slots).length = slots.length from ?_, hlen]
    · exact h2.1
    · clear hc hlen hs
      induction slots with
      | nil => rfl
      | cons x l ih => simp [renL, ih]
  · rw [hc.get t, getD_renL]
    rw [List.getD_eq_getElem?_getD]
    cases hx : slots[t]? with
    | none =>
      have ht : slots.length ≤ t := by simpa using hx
      have : a.tmps.getD t Go.undef = Go.undef := by
        rw [Array.getD_eq_getD_getElem?, Array.getElem?_eq_none (by rw [← h2.1, ← hlen]; exact ht)]
        rfl
      rw [this]; exact rfl
    | some x =>
      rcases hs t x hx with rfl | rfl
      · exact trivial
      · exact Rep.ren hro hρ _ _ (h2.2 t)

/-! ### What is handed back -/

/-- Rows become data. -/
noncomputable def cellTy (hint : Ty) (cs : List SV) : Ty := match hint with
  | .unit => match cs with
    | .int k _ :: _ => .int k
    | .str _ :: _ => .str
    | .bool _ :: _ => .bool
    | _ => .unit
  | u => u
noncomputable def give1 (hint : Ty) (m : Mem) (v : SV) : SV := match v with
  | .nilS => match hint with
    | .unit => .nilS
    | t => .list t []
  | .row id => match m.get id with
    | some (.rows t l) => .list t l
    | _ => .row id
  | .arr id off n => match m.get id with
    | some (.cells cs) => match unflatN (cellTy hint (cs.drop off)) n ((cs.drop off).take (n * (cellTy hint (cs.drop off)).sz)) with
      | some l => .list (cellTy hint (cs.drop off)) l
      | none => .arr id off n
    | _ => .arr id off n
  | v => v
noncomputable def giveL (hint : Ty) (m : Mem) : List SV → List SV
  | [] => []
  | x :: xs => give1 hint m x :: giveL hint m xs
noncomputable def giveA (hint : Ty) (m : Mem) (v : SV) : SV := match v with
  | .agg cs => .agg (giveL hint m cs)
  | v => give1 hint m v
noncomputable def giveM (hint : Ty) (m : Mem) : List SV → List SV
  | [] => []
  | x :: xs => giveA hint m x :: giveM hint m xs
noncomputable def give (hint : Ty) (m : Mem) (v : SV) : SV := match v with
  | .tuple cs => .tuple (giveM hint m cs)
  | v => giveA hint m v

theorem MRel.bare {w0 : World} {R0 : Nat → Prop} {ρ : Rho} {w : World} {m : Mem} (h : MRel w0 R0 ρ w m) : MRel w0 R0 ρ w ⟨0, .e⟩ ∧ ∀ b, RO w0 R0 ρ w m b → RO w0 R0 ρ w ⟨0, .e⟩ b :=
  ⟨⟨h.below, fun id B h => (by cases h), fun id B h => (by cases h), fun id B h => (by cases h), fun id id' B B' h => (by cases h), fun id B h => (by cases h)⟩, fun b hb => by
    rcases hb with hb | ⟨k1, k2, _⟩
    · exact .inl hb
    · exact .inr ⟨k1, k2, fun id B hB => by cases hB⟩⟩

theorem arr_rep {w0 : World} {R0 : Nat → Prop} {ρ : Rho} {w : World} {m : Mem} (h : MRel w0 R0 ρ w m) {id off n : Nat} {cs : List SV} (hg : m.get id = some (.cells cs)) {u : Ty} {l : List u.T} (hl : unflatN u n ((cs.drop off).take (n * u.sz)) = some l) {v : Value}
    (hu : v = .slice (some ⟨(ρ id).1, off, none⟩) n n) : Rep (RO w0 R0 ρ w ⟨0, .e⟩) ρ 0 w (.list u l) v := by
  have hro := h.bare.2
  obtain ⟨arr, e, fr, k1, k2, k3⟩ := h.box id _ hg
  obtain ⟨hd1, hlen⟩ := unflatN_repDL hl ((k3.drop off).take (n * u.sz))
  refine ⟨some ⟨(ρ id).1, off, none⟩, n, by rw [hu, hlen], by omega, fun h0 => ⟨(ρ id).1, off, rfl, .inr ⟨h.lo id _ hg trivial, h.hi id _ hg trivial, fun id B hB => by cases hB⟩, fun i hi => ?_⟩⟩
  obtain ⟨ds, d1, d2, d3⟩ := hd1.elems i hi
  refine ⟨ds, d1, fun j hj => ?_, RepD.mono (fun b hb => ⟨hro b hb, rfl⟩) _ _ _ d3⟩
  rw [cell_of_row w _ _ arr e fr k1, ← d2 j hj]
  have hb : i * u.sz + j < n * u.sz := by
    have : (i + 1) * u.sz ≤ n * u.sz := Nat.mul_le_mul_right _ (by omega)
    rw [Nat.succ_mul] at this; omega
  dsimp only
  rw [List.getElem?_take, if_pos hb, List.getElem?_drop]
  simp

theorem give1_rep {hint : Ty} {w0 : World} {R0 : Nat → Prop} {ρ : Rho} {w : World} {m : Mem} (h : MRel w0 R0 ρ w m) {v : SV} {u : Value} (hv : Rep (RO w0 R0 ρ w m) ρ m.next w v u) (hd : (give1 hint m v).data = true) : Rep (RO w0 R0 ρ w ⟨0, .e⟩) ρ 0 w (give1 hint m v) u := by
  have hro := h.bare.2
  unfold give1 at hd ⊢
  split at hd
  · split at hd
    · exact Rep.data hro _ _ hd hv
    · exact ⟨none, 0, by rw [show u = _ from hv]; rfl, Nat.le_refl _, fun h => absurd h (Nat.lt_irrefl _)⟩
  · rename_i id
    split at hd
    · rename_i t l hg
      obtain ⟨_, a, hu, ha⟩ := hv
      obtain ⟨b1, b2, hp⟩ := h.box id _ hg
      refine ⟨a, (ρ id).2.2, by rw [hu, b1], b2, fun h0 => ?_⟩
      have h0 : 0 < (ρ id).2.2 := Nat.lt_of_lt_of_le h0 b2
      obtain ⟨arr, e, fr, k1, k2, k3, k4⟩ := hp h0
      refine ⟨(ρ id).1, 0, ha h0, .inr ⟨h.lo id _ hg h0, h.hi id _ hg h0, fun id B hB => by cases hB⟩, fun i hi => ?_⟩
      obtain ⟨cs, c1, c2, c3⟩ := k4 i hi
      refine ⟨cs, c1, fun j hj => ?_, RepD.mono (fun b hb => ⟨hro b hb, rfl⟩) _ _ _ c3⟩
      rw [cell_of_row w _ _ arr e fr k1, Nat.zero_add]
      exact c2 j hj
    · cases hd
  · rename_i id off n
    split at hd
    · rename_i cs hg
      split at hd
      · rename_i l hl
        exact arr_rep h hg hl hv.2
      · cases hd
    · cases hd
  · exact Rep.data hro _ _ hd hv

theorem giveL_rep {hint : Ty} {w0 : World} {R0 : Nat → Prop} {ρ : Rho} {w : World} {m : Mem} (h : MRel w0 R0 ρ w m) : ∀ {cs : List SV} {us : List Value}, RepL (RO w0 R0 ρ w m) ρ m.next w cs us → dataL (giveL hint m cs) = true → RepL (RO w0 R0 ρ w ⟨0, .e⟩) ρ 0 w (giveL hint m cs) us
  | [], _, hr, _ => hr
  | x :: xs, us, hr, hd => by
    obtain ⟨u, us', rfl, h2, h3⟩ := hr
    unfold giveL at hd ⊢
    rw [dataL_cons] at hd
    cases h4 : (give1 hint m x).data with
    | false => rw [h4] at hd; cases hd
    | true => rw [h4] at hd; exact ⟨u, us', rfl, give1_rep h h2 h4, giveL_rep h h3 hd⟩

theorem giveA_rep {hint : Ty} {w0 : World} {R0 : Nat → Prop} {ρ : Rho} {w : World} {m : Mem} (h : MRel w0 R0 ρ w m) {v : SV} {u : Value} (hv : Rep (RO w0 R0 ρ w m) ρ m.next w v u) (hd : (giveA hint m v).data = true) : Rep (RO w0 R0 ρ w ⟨0, .e⟩) ρ 0 w (giveA hint m v) u := by
  unfold giveA at hd ⊢
  split at hd
  · obtain ⟨vs, h1, h2⟩ := hv
    exact ⟨vs, h1, giveL_rep h h2 (by rw [← data_agg]; exact hd)⟩
  · exact give1_rep h hv hd

theorem giveM_rep {hint : Ty} {w0 : World} {R0 : Nat → Prop} {ρ : Rho} {w : World} {m : Mem} (h : MRel w0 R0 ρ w m) : ∀ {cs : List SV} {us : List Value}, RepL (RO w0 R0 ρ w m) ρ m.next w cs us → dataL (giveM hint m cs) = true → RepL (RO w0 R0 ρ w ⟨0, .e⟩) ρ 0 w (giveM hint m cs) us
  | [], _, hr, _ => hr
  | x :: xs, us, hr, hd => by
    obtain ⟨u, us', rfl, h2, h3⟩ := hr
    unfold giveM at hd ⊢
    rw [dataL_cons] at hd
    cases h4 : (giveA hint m x).data with
    | false => rw [h4] at hd; cases hd
    | true => rw [h4] at hd; exact ⟨u, us', rfl, giveA_rep h h2 h4, giveM_rep h h3 hd⟩

theorem give_rep {hint : Ty} {w0 : World} {R0 : Nat → Prop} {ρ : Rho} {w : World} {m : Mem} (h : MRel w0 R0 ρ w m) {v : SV} {u : Value} (hv : Rep (RO w0 R0 ρ w m) ρ m.next w v u) (hd : (give hint m v).data = true) : Rep (RO w0 R0 ρ w ⟨0, .e⟩) ρ 0 w (give hint m v) u := by
  unfold give at hd ⊢
  split at hd
  · obtain ⟨vs, h1, h2⟩ := hv
    exact ⟨vs, h1, giveM_rep h h2 (by rw [← data_tuple]; exact hd)⟩
  · exact giveA_rep h hv hd

/-! ### Segments and descent -/

noncomputable def segR (E : Env) (n : Nat) (fn : Func) (hint : Ty) (keep : List Item → List Bool) (items : List Item) (p : Plan) (slots : List SV) (boxes : List (Option Box)) : Tree Stop :=
  Fr.make slots.length slots fun fr => memFill boxes ⟨0, .e⟩ fun m => exec E n items p fr m fun o => match o with
    | .ret _ fr m => results E fn m fr fun v => .leaf (.done (give hint m v))
    | .stop items fr m => match live m (viewS fr (keep items) 0) with
      | ids => match nodupB ids with
        | true => .leaf (.at (enter items) fr.size (renL ids (viewS fr (keep items) 0)) (ids.map fun id => (m.get id).map (renB ids)))
        | false => .fail 170

/-- From such a state the code comes to its end, with this value. -/
def RunsR (P : Program) (fn : Func) (v : SV) (items : List Item) (slots : List SV) (boxes : List (Option Box)) : Prop :=
  ∀ fr m, Canon slots boxes fr m → ∀ w0 R0 ρ w a, SRel w0 R0 ρ w fr m a → ∀ (b : Frame) (cs : List Frame), ∃ ρ' w' a' todo u, MRel w0 R0 ρ' w' ⟨0, .e⟩ ∧ a'.defers = [] ∧ (∀ b, RO w0 R0 ρ w m b → RO w0 R0 ρ' w' ⟨0, .e⟩ b ∧ w'.heap[b]? = w.heap[b]?) ∧
    Steps P (lone (b.at a items) cs w) (lone { b.at a' todo with mode := .returning } cs w') ∧ (Go.results fn a'.tmps).run P w' = .ok u w' ∧ Rep (RO w0 R0 ρ' w' ⟨0, .e⟩) ρ' 0 w' v u

theorem runsR_seg {P : Program} {E : Env} (hK : Known P E) {n : Nat} {fn : Func} {hint : Ty} {keep : List Item → List Bool} {items : List Item} {p : Plan} {slots : List SV} {boxes : List (Option Box)} {v : SV} (hvd : v.data = true)
    (h : (segR E n fn hint keep items p slots boxes).holds fun o => match o with
      | .done v' => v' = v
      | .at items' size slots' boxes' => slots'.length = size ∧ RunsR P fn v items' slots' boxes') : RunsR P fn v items slots boxes := by
  intro fr0 m0 hc0 w0 R0 ρ w a hs b cs
  unfold segR at h
  obtain ⟨fr, h1, h2, h3, h4⟩ := make_holds h
  obtain ⟨m, h5, h6, h7, h8⟩ := memFill_holds boxes ⟨0, .e⟩ _ h1 fun id _ => rfl
  have hc : Canon slots boxes fr m := ⟨h2, h4, by rw [h6]; simp, fun id => by simpa using h8 id⟩
  obtain ⟨hs1, hro1⟩ := hc0.swap hc hs
  obtain ⟨out, h9, h10⟩ := exec_ok hK.e hK.s hK.mix n _ _ _ _ _ _ h5
  cases out with
  | ret p' fr' m' =>
    dsimp only at h9
    obtain ⟨v', k1, k2⟩ := results_holds hK.e h9
    obtain rfl : give hint m' v' = v := k1
    obtain ⟨ρ1, w1, a1, todo, g1, g2, g3⟩ := h10 w0 R0 ρ w a hs1 b cs
    obtain ⟨u, r1, r2⟩ := k2 w0 R0 ρ1 w1 a1 g1
    obtain ⟨e1, e2⟩ := g1.1.bare
    exact ⟨ρ1, w1, a1, todo, u, e1, g1.2.2, fun b hb => ⟨e2 b (g2.keep b ((hro1 b).1 hb)).1, (g2.keep b ((hro1 b).1 hb)).2⟩, g3, r1, give_rep g1.1 r2 hvd⟩
  | stop items' fr' m' =>
    dsimp only at h9
    split at h9
    · rename_i hnd
      have h10 : Reach P items fr m (.stop (enter items') fr' m') := by
        refine h10.trans ?_
        unfold enter
        split
        · exact Reach.step fun b a cs w _ => step_loop
        · exact Reach.step fun b a cs w _ => step_inLoop
        · exact Reach.refl _ _ _
      generalize hids : live m' (viewS fr' (keep items') 0) = ids at h9 hnd
      obtain ⟨k1, k5⟩ := h9
      obtain ⟨ρ1, w1, a1, g1, g2, g3⟩ := h10 w0 R0 ρ w a hs1 b cs
      obtain ⟨fr2, m2, hc2⟩ := Canon.of (slots := renL ids (viewS fr' (keep items') 0)) (boxes := ids.map fun id => (m'.get id).map (renB ids))
      have hlr : ∀ l : List SV, (renL ids l).length = l.length := fun l => by
        induction l with
        | nil => rfl
        | cons x l ih => simp [renL, ih]
      obtain ⟨e1, e2⟩ := g1.rename (nodupB_spec hnd) hc2 (by rw [← k1, hlr]) (fun i x hx => by simpa using viewS_get fr' _ 0 i x hx)
      obtain ⟨ρ3, w3, a3, todo, u, q1, q2, q3, q4, q5, q6⟩ := k5 fr2 m2 hc2 w0 R0 _ w1 a1 e1 b cs
      exact ⟨ρ3, w3, a3, todo, u, q1, q2, fun b hb => by
        have s1 := g2.keep b ((hro1 b).1 hb)
        have s2 := q3 b (e2 b s1.1)
        exact ⟨s2.1, s2.2.trans s1.2⟩, g3.trans q4, q5, q6⟩
    · exact h9.elim

/-- Descent: from every state that keeps the law, the code comes to its end. -/
theorem runsR_of {P : Program} {E : Env} (hK : Known P E) {n : Nat} {fn : Func} {hint : Ty} {v : SV} (hvd : v.data = true) {σ : Type} (inv : σ → Prop) (μ : σ → Nat) (keep : List Item → List Bool) (it : σ → List Item) (sl : σ → List SV) (bx : σ → List (Option Box)) (pl : σ → Plan)
    (h : ∀ s, inv s → (segR E n fn hint keep (it s) (pl s) (sl s) (bx s)).holds fun o => match o with
      | .done v' => v' = v
      | .at items' size slots' boxes' => slots'.length = size ∧ ((∃ s', inv s' ∧ μ s' < μ s ∧ items' = it s' ∧ slots' = sl s' ∧ boxes' = bx s') ∨ RunsR P fn v items' slots' boxes')) :
    ∀ s, inv s → RunsR P fn v (it s) (sl s) (bx s) := by
  have : ∀ k s, μ s < k → inv s → RunsR P fn v (it s) (sl s) (bx s) := by
    intro k
    induction k with
    | zero => exact fun s hk => absurd hk (Nat.not_lt_zero _)
    | succ k ih =>
      intro s hk hs
      refine runsR_seg hK hvd (E := E) (n := n) (hint := hint) (keep := keep) (p := pl s) (Tree.holds_mono (fun o ho => ?_) _ (h s hs))
      cases o with
      | done v' => exact ho
      | «at» items' size slots' boxes' =>
        obtain ⟨a6, ho⟩ := ho
        rcases ho with ⟨s', a1, a2, rfl, rfl, rfl⟩ | ho
        · exact ⟨a6, ih s' (by omega) a1⟩
        · exact ⟨a6, ho⟩
  exact fun s hs => this _ s (Nat.lt_succ_self _) hs

/-- A whole call: its own first segment, then descent. -/
theorem scallR_loops {P : Program} {f : FuncId} {args : List SV} {v : SV} (hd : dataL args = true) (hvd : v.data = true)
    (hf : (match P.funcs[f]? with
      | some fn => fn.body.isSome && !(fn.name == "runtime.NumGoroutine") && Nat.ble args.length fn.ntmps
      | none => false) = true)
    (h : RunsR P (fnOf P f) v [.code (bodyOf P f)] (args ++ List.replicate ((fnOf P f).ntmps - args.length) .undef) []) : SCall P f args v := by
  unfold fnOf bodyOf at h
  unfold fnOf at h
  cases hx : P.funcs[f]? with
  | none => rw [hx] at hf; cases hf
  | some fn =>
    rw [hx] at hf h
    dsimp only at hf h
    simp only [Bool.and_eq_true, Bool.not_eq_true'] at hf
    obtain ⟨⟨h1, hn⟩, h3⟩ := hf
    obtain ⟨body, hb⟩ := Option.isSome_iff_exists.mp h1
    rw [hb] at h
    have hl := Nat.le_of_ble_eq_true h3
    intro m w0 R0 ρ w vs hm hvs
    obtain ⟨fr, mc0, hc⟩ := Canon.of (slots := args ++ List.replicate (fn.ntmps - args.length) .undef) (boxes := [])
    have hc' : Canon (args ++ List.replicate (fn.ntmps - args.length) .undef) [] fr ⟨0, .e⟩ := ⟨hc.size, hc.get, rfl, fun id => rfl⟩
    rw [callFunc_enter hx hb hn]
    obtain ⟨o1, o2⟩ := own_mem hm ρ
    have hfr := frame_rel (size := fn.ntmps) (by rw [hc.size]; simp; omega) (.inr hl) (fun t => by rw [hc.get, pad_get]) (RepL.data (R' := RO w (RO w0 R0 ρ w m) ρ w ⟨0, .e⟩) (ρ' := ρ) (n' := 0) o2 args vs hd hvs)
    intro cs
    let b : Frame := { (default : Frame) with fn := f, kind := .normal }
    have henter : Frame.enter P f vs.toArray .normal = b.at { tmps := vs.toArray ++ Array.replicate (fn.ntmps - vs.toArray.size) Go.undef, defers := [] } [.code body] := by
      simp [Frame.enter, Frame.at, hx, hb, b]
    obtain ⟨ρ', w', a', todo, u, q1, q2, q3, q4, q5, q6⟩ := h fr ⟨0, .e⟩ hc' w (RO w0 R0 ρ w m) ρ w { tmps := vs.toArray ++ Array.replicate (fn.ntmps - vs.toArray.size) Go.undef, defers := [] } ⟨o1, hfr, rfl⟩ b cs
    have hst := Hand.start hm q1
    obtain ⟨k1, k2⟩ := hst.finish hm q1
    exact ⟨.returned u, w', _, ⟨u, rfl, ρ, k1, k2, Rep.data (fun b hb => hst.ro b (.inr hb)) v u hvd q6⟩, by rw [henter]; exact q4, rfl, rfl, q2, rfl, fn, hx, q5⟩
end Go.Sx
