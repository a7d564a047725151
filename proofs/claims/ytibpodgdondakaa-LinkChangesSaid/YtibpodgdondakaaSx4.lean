/-
  Sx4: what the operations on memory, addresses and parts yield: each agrees with the model's.
-/
import Derived.Test.YtibpodgdondakaaSx3
set_option linter.unusedSimpArgs false
set_option linter.unusedVariables false
namespace Go.Sx
open Go.RowKit

structure RowOK (P : Program) (t : TypeId) (r : Row) : Prop where
  und : P.underlying t = some r.desc
  info : ∃ i z, P.info? t = some i ∧ i.size = r.size ∧ i.bytes = r.bytes ∧ i.zero = some z ∧ (∀ R ρ n w, RepL R ρ n w r.zero z.cells.toList) ∧ (∀ u, r.ty = some u → ∀ R w, RepD R w u u.dflt z.cells.toList)
  eqg : r.eqg = P.eqGuardType P.depth t
  held : r.held = P.stoodInHeld t

structure EOK (P : Program) (E : Env) : Prop where
  row : ∀ t r, E.row t = some r → RowOK P t r
  fn : ∀ f fn, E.fn f = some fn → P.funcs[f]? = some fn

/-- A value and a world, or nothing. -/
def Val (Φ : Value → World → Prop) : Result Value → Prop
  | .ok v w => Φ v w
  | .halt _ _ => False

/-- What an operation leaves. -/
def OpOut (w0 : World) (R0 : Nat → Prop) (ρ : Rho) (w : World) (m : Mem) (v : SV) (m' : Mem) (u : Value) (w' : World) : Prop :=
  ∃ ρ', MRel w0 R0 ρ' w' m' ∧ MExt w0 R0 ρ w m ρ' w' m' ∧ Rep (RO w0 R0 ρ' w' m') ρ' m'.next w' v u

theorem OpOut.same {w0 : World} {R0 : Nat → Prop} {ρ : Rho} {w : World} {m : Mem} {v : SV} {u : Value} (h : MRel w0 R0 ρ w m) (hv : Rep (RO w0 R0 ρ w m) ρ m.next w v u) : OpOut w0 R0 ρ w m v m u w :=
  ⟨ρ, h, Ext.refl _ _ _ _, hv⟩

section
variable {P : Program} {E : Env} {α : Type} {L : α → Prop}

theorem run_isAgg {t : TypeId} {r : Row} (h : RowOK P t r) (w : World) : (isAgg t).run P w = .ok r.isAgg w := by
  simp only [isAgg, Sem.run_bind, run_underlying h.und, Result.andThen_ok]
  unfold Row.isAgg
  cases r.desc <;> rfl
theorem run_sizeOf' {t : TypeId} {r : Row} (h : RowOK P t r) (w : World) : (sizeOf t).run P w = .ok r.size w := by
  obtain ⟨i, z, h1, h2, _⟩ := h.info
  simp only [sizeOf, typeInfo, Sem.run_bind, run_program, Result.andThen_ok, h1, Sem.run_pure, h2]
theorem run_typeInfo' {t : TypeId} {r : Row} (h : RowOK P t r) : ∃ i, (∀ w, (typeInfo t).run P w = .ok i w) ∧ i.bytes = r.bytes ∧ i.size = r.size := by
  obtain ⟨i, z, h1, h2, h3, _⟩ := h.info
  exact ⟨i, fun w => by simp only [typeInfo, Sem.run_bind, run_program, Result.andThen_ok, h1, Sem.run_pure], h3, h2⟩
theorem run_zero' {t : TypeId} {r : Row} (h : RowOK P t r) : ∃ z : Value, (∀ w, (zeroValue t).run P w = .ok z w) ∧ (∀ R ρ n w, RepL R ρ n w r.zero z.cells.toList) ∧ (∀ u, r.ty = some u → ∀ R w, RepD R w u u.dflt z.cells.toList) := by
  obtain ⟨i, z, h1, _, _, h4, h5, h6⟩ := h.info
  exact ⟨z, fun w => by simp only [zeroValue, typeInfo, Sem.run_bind, run_program, Result.andThen_ok, h1, Sem.run_pure, h4], h5, h6⟩

/-- Cells from (g, o) on. -/
def CellsAt (R : Nat → Prop) (ρ : Rho) (n : Nat) (w : World) (g o : Nat) (cs : List SV) : Prop :=
  ∃ vs : List Value, RepL R ρ n w cs vs ∧ ∀ j, j < vs.length → w.cell? ⟨g, o + j, none⟩ = vs[j]?

/-- Which value is loaded. -/
def loaded (r : Row) (cs : List SV) (off : Nat) : Option SV :=
  match r.isAgg with
  | true => if r.size = 0 ∨ off + r.size ≤ cs.length then some (.agg ((cs.drop off).take r.size)) else none
  | false => cs[off]?

theorem loadCells_holds {r : Row} {cs : List SV} {off : Nat} {p : Plan} {m : Mem} {κ : Kont α} (h : (loadCells r cs off p m κ).holds L) : ∃ v, loaded r cs off = some v ∧ (κ v p m).holds L := by
  unfold loadCells at h
  unfold loaded
  cases hr : r.isAgg with
  | true =>
    rw [hr] at h
    rcases takeK_holds _ _ _ _ h with ⟨h0, h1⟩ | ⟨h0, h1⟩
    · exact ⟨_, by rw [if_pos (.inl h0), h0], by simpa using h1⟩
    · exact ⟨_, by rw [if_pos (.inr h0)], h1⟩
  | false =>
    rw [hr] at h
    dsimp only at h
    rw [nth_eq] at h
    cases hc : cs[off]? with
    | none => rw [hc] at h; exact h.elim
    | some v => rw [hc] at h; dsimp only at h; rw [frc_eq] at h; exact ⟨v, rfl, h⟩

theorem run_loadCells_at {R : Nat → Prop} {ρ : Rho} {n : Nat} {w : World} {g o : Nat} {cs : List SV} {off k : Nat} (hc : CellsAt R ρ n w g o cs) (hk : k = 0 ∨ off + k ≤ cs.length) :
    ∃ us : List Value, (Go.loadCells ⟨g, o + off, none⟩ k).run P w = .ok ⟨us⟩ w ∧ RepL R ρ n w ((cs.drop off).take k) us := by
  obtain ⟨vs, h1, h2⟩ := hc
  rcases hk with rfl | hk
  · exact ⟨[], rfl, by simp [RepL]⟩
  · have hl := h1.length
    have hlen : ((vs.drop off).take k).length = k := by simp; omega
    refine ⟨(vs.drop off).take k, ?_, (h1.drop off).take k⟩
    have := run_loadCells_list (P := P) w ⟨g, o + off, none⟩ ((vs.drop off).take k) (fun j v hj => by
      have hjk : j < k := by
        have := (List.getElem?_eq_some_iff.1 hj).1
        omega
      rw [List.getElem?_take, if_pos hjk, List.getElem?_drop] at hj
      rw [Addr.add_lit, Nat.add_assoc, h2 (off + j) (by omega)]
      exact hj)
    rw [hlen] at this
    exact this

theorem run_loadVar' {t : TypeId} {r : Row} (hr : RowOK P t r) {R : Nat → Prop} {ρ : Rho} {n : Nat} {w : World} {g o : Nat} {cs : List SV} {off : Nat} {v : SV} (hc : CellsAt R ρ n w g o cs) (hv : loaded r cs off = some v) :
    ∃ u, (loadVar t ⟨g, o + off, none⟩).run P w = .ok u w ∧ Rep R ρ n w v u := by
  unfold loaded at hv
  simp only [loadVar, Sem.run_bind, run_isAgg hr, Result.andThen_ok]
  cases ha : r.isAgg with
  | true =>
    rw [ha] at hv
    dsimp only at hv
    split at hv
    · rename_i hk
      injection hv with hv
      obtain ⟨us, h1, h2⟩ := run_loadCells_at (P := P) hc hk
      refine ⟨.agg ⟨us⟩, ?_, by rw [← hv]; exact ⟨us, rfl, h2⟩⟩
      simp only [if_true, Sem.run_bind, run_sizeOf' hr, Result.andThen_ok, h1, Sem.run_pure]
    · cases hv
  | false =>
    rw [ha] at hv
    dsimp only at hv
    obtain ⟨vs, h1, h2⟩ := hc
    obtain ⟨u, h3, h4⟩ := h1.get hv
    refine ⟨u, ?_, h4⟩
    have hlt : off < vs.length := (List.getElem?_eq_some_iff.1 h3).1
    simp [h2 off hlt, h3]

/-- A pointer that a value says: where it leads, and what lies there. -/
theorem ptr_cells {w0 : World} {R0 : Nat → Prop} {ρ : Rho} {w : World} {m : Mem} (hm : MRel w0 R0 ρ w m) {id : Nat} {cs : List SV} (h : m.get id = some (.cells cs)) : CellsAt (RO w0 R0 ρ w m) ρ m.next w (ρ id).1 0 cs := by
  obtain ⟨arr, e, fr, h1, h2, h3⟩ := hm.box id _ h
  exact ⟨arr.toList, h3, fun j hj => by rw [Nat.zero_add, cell_of_row w _ j arr e fr h1]; simp⟩

theorem elem_cells {R : Nat → Prop} {ρ : Rho} {n : Nat} {w : World} {u : Ty} {l : List u.T} {b o i : Nat} (h : ElemsAt R w u b o l) (hi : i < l.length) : CellsAt R ρ n w b (o + i * u.sz) (flat u (l.getD i u.dflt)) := by
  obtain ⟨cs, h1, h2, h3⟩ := h.2 i hi
  obtain ⟨h4, h5⟩ := RepD.flat (ρ := ρ) (n := n) u _ cs h3
  refine ⟨cs, ?_, fun j hj => by rw [Nat.add_assoc]; exact h2 j (by omega)⟩
  have : l.getD i u.dflt = l[i] := by simp [hi]
  rw [this]; exact h5

theorem rows_cells {w0 : World} {R0 : Nat → Prop} {ρ : Rho} {w : World} {m : Mem} (hm : MRel w0 R0 ρ w m) {id : Nat} {u : Ty} {l : List u.T} (h : m.get id = some (.rows u l)) {i : Nat} (hi : i < l.length) :
    CellsAt (RO w0 R0 ρ w m) ρ m.next w (ρ id).1 (i * u.sz) (flat u (l.getD i u.dflt)) := by
  obtain ⟨_, hc, hp⟩ := hm.box id _ h
  obtain ⟨arr, e, fr, h1, h2, h3, h4⟩ := hp (by omega)
  obtain ⟨cs, k1, k2, k3⟩ := h4 i hi
  obtain ⟨h5, h6⟩ := RepD.flat (ρ := ρ) (n := m.next) u _ cs k3
  refine ⟨cs, ?_, fun j hj => by rw [cell_of_row w _ _ arr e fr h1]; exact k2 j (by omega)⟩
  have : l.getD i u.dflt = l[i] := by simp [hi]
  rw [this]; exact h6

theorem opLoad_sound (hE : EOK P E) {t : TypeId} {a : SV} {p : Plan} {m : Mem} {κ : Kont α} (h : (opLoad E t a p m κ).holds L) :
    ∃ v, (κ v p m).holds L ∧ ∀ m2, Up m m2 → ∀ w0 R0 ρ w (av : Value), MRel w0 R0 ρ w m2 → Rep (RO w0 R0 ρ w m2) ρ m2.next w a av → ∃ u, (Instr.loadAt t av).run P w = .ok u w ∧ Rep (RO w0 R0 ρ w m2) ρ m2.next w v u := by
  unfold opLoad at h
  cases hr : E.row t with
  | none => rw [hr] at h; exact h.elim
  | some r =>
    rw [hr] at h
    have hok := hE.row t r hr
    cases a <;> try exact h.elim
    case ptr id off =>
      dsimp only at h
      cases hg : m.get id with
      | none => rw [hg] at h; exact h.elim
      | some B =>
        rw [hg] at h
        cases B <;> try exact h.elim
        case cells cs =>
          obtain ⟨v, h1, h2⟩ := loadCells_holds h
          refine ⟨v, h2, fun m2 hup w0 R0 ρ w av hm ha => ?_⟩
          obtain ⟨_, rfl⟩ := ha
          obtain ⟨u, h3, h4⟩ := run_loadVar' hok (ptr_cells hm (hup _ _ hg)) h1
          refine ⟨u, ?_, h4⟩
          rw [Nat.zero_add] at h3
          simpa [Instr.loadAt, Instr.sureAddr] using h3
    case eptr u l i off =>
      obtain ⟨v, h1, h2⟩ := loadCells_holds h
      refine ⟨v, h2, fun m2 hup w0 R0 ρ w av hm ha => ?_⟩
      obtain ⟨b, o, rfl, hi, he⟩ := ha
      obtain ⟨x, h3, h4⟩ := run_loadVar' hok (elem_cells (ρ := ρ) (n := m2.next) he hi) h1
      refine ⟨x, ?_, h4⟩
      rw [Nat.add_assoc] at h3
      simpa [Instr.loadAt, Instr.sureAddr] using h3
    case rptr id sz i off =>
      dsimp only at h
      cases hg : m.get id with
      | none => rw [hg] at h; exact h.elim
      | some B =>
        rw [hg] at h
        cases B <;> try exact h.elim
        case rows u l =>
          dsimp only at h
          split at h
          · rename_i hsz0
            obtain ⟨hsz2, h⟩ := h
            have hsz : sz = u.sz ∧ i < l.length := ⟨by simpa using hsz0, by simpa using hsz2⟩
            obtain ⟨v, h1, h2⟩ := loadCells_holds h
            refine ⟨v, h2, fun m2 hup w0 R0 ρ w av hm ha => ?_⟩
            obtain ⟨_, rfl⟩ := ha
            obtain ⟨x, h3, h4⟩ := run_loadVar' hok (rows_cells hm (hup _ _ hg) hsz.2) h1
            refine ⟨x, ?_, h4⟩
            rw [← hsz.1] at h3
            simpa [Instr.loadAt, Instr.sureAddr] using h3
          · exact h.elim

/-! ### Stores -/

theorem all1_spec : ∀ (l : List SV), all1 l = true → ∀ x ∈ l, x.one = true
  | [], _, x, hx => by cases hx
  | y :: ys, h, x, hx => by
    change (match y.one with | true => all1 ys | false => false) = true at h
    cases hy : y.one with
    | false => rw [hy] at h; cases h
    | true =>
      rw [hy] at h
      cases hx with
      | head => exact hy
      | tail _ hx => exact all1_spec ys h x hx

theorem one_cell {R : Nat → Prop} {ρ : Rho} {n : Nat} {w : World} {x : SV} {v : Value} (h : Rep R ρ n w x v) (h1 : x.one = true) : v.oneCell' = true := by
  cases x <;> simp only [SV.one] at h1 <;> try (cases h1; done)
  case int => rw [show v = _ from h]; rfl
  case bool => rw [show v = _ from h]; rfl
  case str => rw [show v = _ from h]; rfl
  case nilS => rw [show v = _ from h]; rfl
  case list t l =>
    obtain ⟨a, cap, hv, _⟩ := h
    injection hv with hv
    rw [hv]; rfl
  case row => obtain ⟨a, h2, _⟩ := h.2; rw [h2]; rfl
  case arr => rw [show v = _ from h.2]; rfl
  case ptr => rw [show v = _ from h.2]; rfl
  case nilP => rw [show v = _ from h]; rfl
  case eptr => obtain ⟨b, o, rfl, _⟩ := h; rfl
  case rptr => rw [show v = _ from h.2]; rfl
  case fn => obtain ⟨a, b, rfl, _⟩ := h; rfl
  case raw u =>
    rw [show v = u from h]
    cases u <;> first | rfl | (cases h1; done)

/-- The cells of a value. -/
theorem Rep.cells {R : Nat → Prop} {ρ : Rho} {n : Nat} {w : World} {x : SV} {v : Value} (h : Rep R ρ n w x v) (h1 : all1 x.cells = true) : RepL R ρ n w x.cells v.cells.toList ∧ ∀ u ∈ v.cells.toList, u.oneCell' = true := by
  have key : RepL R ρ n w x.cells v.cells.toList := by
    cases x with
    | agg cs => obtain ⟨vs, rfl, h2⟩ := h; exact h2
    | _ =>
      have hx := all1_spec _ h1 _ (List.mem_singleton.2 rfl)
      have ho := one_cell h hx
      have hv : v.cells = #[v] := by cases v <;> first | rfl | (cases ho; done)
      rw [hv]
      exact ⟨v, [], rfl, h, rfl⟩
  refine ⟨key, fun u hu => ?_⟩
  obtain ⟨i, hi⟩ := List.getElem?_of_mem hu
  have hl := key.length
  have hlt : i < x.cells.length := by have := (List.getElem?_eq_some_iff.1 hi).1; omega
  obtain ⟨c, hc⟩ : ∃ c, x.cells[i]? = some c := ⟨_, List.getElem?_eq_getElem hlt⟩
  obtain ⟨u', h2, h3⟩ := key.get hc
  rw [hi] at h2; injection h2 with h2; subst h2
  exact one_cell h3 (all1_spec _ h1 c (List.mem_of_getElem? hc))

/-- What a row of cells is behind a store. -/
def overA (arr : Array Value) (off : Nat) (vs : List Value) : Array Value := ⟨arr.toList.take off ++ vs ++ arr.toList.drop (off + vs.length)⟩

theorem overA_nil (arr : Array Value) (off : Nat) : overA arr off [] = arr := by
  apply Array.ext'
  simp [overA]
theorem overA_size {arr : Array Value} {off : Nat} {vs : List Value} (h : off + vs.length ≤ arr.size) : (overA arr off vs).size = arr.size := by
  simp [overA]; omega
theorem overA_get {arr : Array Value} {off : Nat} {vs : List Value} (h : off + vs.length ≤ arr.size) (k : Nat) : (overA arr off vs)[k]? = if off ≤ k ∧ k < off + vs.length then vs[k - off]? else arr[k]? := by
  have hl : arr.toList.length = arr.size := by simp
  rw [← Array.getElem?_toList, ← Array.getElem?_toList]
  simp only [overA]
  by_cases h1 : k < off
  · rw [if_neg (by omega), List.append_assoc, List.getElem?_append_left (by rw [List.length_take]; omega), List.getElem?_take, if_pos h1]
  · by_cases h2 : k < off + vs.length
    · rw [if_pos ⟨by omega, h2⟩, List.append_assoc, List.getElem?_append_right (by rw [List.length_take]; omega), List.length_take, Nat.min_eq_left (by omega), List.getElem?_append_left (by omega)]
    · rw [if_neg (by omega), List.getElem?_append_right (by rw [List.length_append, List.length_take]; omega), List.length_append, List.length_take, Nat.min_eq_left (by omega), List.getElem?_drop, show off + vs.length + (k - (off + vs.length)) = k by omega]
theorem overA_cons {arr : Array Value} {off : Nat} {v : Value} {vs : List Value} (h : off + (v :: vs).length ≤ arr.size) : overA (arr.setIfInBounds off v) (off + 1) vs = overA arr off (v :: vs) := by
  simp only [List.length_cons] at h
  apply Array.ext_getElem?
  intro k
  rw [overA_get (by simp; omega), overA_get (by simp; omega)]
  simp only [List.length_cons]
  by_cases h1 : k = off
  · subst h1
    rw [if_neg (by omega), if_pos ⟨by omega, by omega⟩]
    simp [Array.getElem?_setIfInBounds, show k < arr.size by omega]
  · by_cases h2 : off + 1 ≤ k ∧ k < off + 1 + vs.length
    · rw [if_pos h2, if_pos ⟨by omega, by omega⟩, show k - off = (k - (off + 1)) + 1 by omega, List.getElem?_cons_succ]
    · rw [if_neg h2, if_neg (by omega), Array.getElem?_setIfInBounds_ne (Ne.symm h1)]

theorem run_storeCells' (g : Nat) (o : Nat) (e : TypeId) (fr : Nat × Nat) : ∀ (vs : List Value) (i : Nat) (cur : Array Value) (w : World), w.heap[g]? = some (.cells cur e fr) → unfrozen cur fr → o + i + vs.length ≤ cur.size → (∀ v ∈ vs, v.oneCell' = true) →
    ∃ w', (storeCells ⟨g, o, none⟩ vs i).run P w = .ok () w' ∧ w'.heap[g]? = some (.cells (overA cur (o + i) vs) e fr) ∧ w'.os = w.os ∧ w'.tape = w.tape ∧ w'.output = w.output ∧ w'.heap.size = w.heap.size ∧ (∀ k, k ≠ g → w'.heap[k]? = w.heap[k]?)
  | [], i, cur, w, hg, hu, hl, h1 => ⟨w, rfl, by rw [overA_nil]; exact hg, rfl, rfl, rfl, rfl, fun _ _ => rfl⟩
  | v :: vs, i, cur, w, hg, hu, hl, h1 => by
    simp only [List.length_cons] at hl
    have hc : w.cell? ⟨g, o + i, none⟩ = some (cur[o + i]'(by omega)) := by rw [cell_of_row w g _ cur e fr hg]; simp
    have hf : w.frozen? ⟨g, o + i, none⟩ = false := by
      have := hu (o + i) (by omega)
      simp only [World.frozen?, hg]
      by_cases h2 : fr.1 ≤ o + i
      · have h3 : ¬ o + i < fr.2 := fun h3 => this ⟨h2, h3⟩
        simp [h3]
      · simp [h2]
    have hrow := setCell_eq_setRow w g (o + i) cur e fr v hg
    have hg' : (w.setCell ⟨g, o + i, none⟩ v).heap[g]? = some (.cells (cur.setIfInBounds (o + i) v) e fr) := by rw [hrow]; exact setRow_heap w g cur _ e fr hg
    have hu' : unfrozen (cur.setIfInBounds (o + i) v) fr := fun k hk => hu k (by simpa using hk)
    obtain ⟨w', r1, r2, r3, r4, r5, r6, r7⟩ := run_storeCells' g o e fr vs (i + 1) _ _ hg' hu' (by simp; omega) (fun u hu => h1 u (List.mem_cons_of_mem _ hu))
    refine ⟨w', ?_, ?_, r3, r4, r5, r6.trans (by simp), fun k hk => (r7 k hk).trans (heap_setCell_other w _ k v hk)⟩
    · simp only [storeCells, Sem.run_bind, Addr.add_lit, run_store P w _ v _ (h1 v List.mem_cons_self), hc, hf, Bool.false_eq_true, if_false, Result.andThen_ok, r1]
    · rw [r2, ← Nat.add_assoc, overA_cons (by simp; omega)]

theorem run_storeVar' {t : TypeId} {r : Row} (hr : RowOK P t r) {w : World} {g o : Nat} {cur : Array Value} {e : TypeId} {fr : Nat × Nat} {v : Value} (hg : w.heap[g]? = some (.cells cur e fr)) (hu : unfrozen cur fr)
    (hl : o + v.cells.toList.length ≤ cur.size) (h1 : ∀ u ∈ v.cells.toList, u.oneCell' = true) (hs : r.size = v.cells.toList.length) :
    ∃ w', (storeVar t ⟨g, o, none⟩ v).run P w = .ok () w' ∧ w'.heap[g]? = some (.cells (overA cur o v.cells.toList) e fr) ∧ w'.os = w.os ∧ w'.tape = w.tape ∧ w'.output = w.output ∧ w'.heap.size = w.heap.size ∧ (∀ k, k ≠ g → w'.heap[k]? = w.heap[k]?) := by
  obtain ⟨w', r1, r2, r3⟩ := run_storeCells' (P := P) g o e fr v.cells.toList 0 cur w hg hu (by simpa using hl) h1
  refine ⟨w', ?_, by simpa using r2, r3⟩
  have hsz : v.cells.size = r.size := by rw [hs]; simp
  simp only [storeVar, Sem.run_bind, run_sizeOf' hr, Result.andThen_ok, hsz, ne_eq, not_true_eq_false, if_false, Sem.run_pure, r1]

theorem over_rep {R : Nat → Prop} {ρ : Rho} {n : Nat} {w : World} {cs : List SV} {arr : Array Value} {vs : List SV} {us : List Value} {off : Nat} (h : RepL R ρ n w cs arr.toList) (k : RepL R ρ n w vs us) : RepL R ρ n w (over cs off vs) (overA arr off us).toList := by
  unfold over overA
  rw [show off + us.length = off + vs.length by rw [k.length]]
  exact ((h.take off).append k).append (h.drop _)

theorem unfrozen_over {arr : Array Value} {fr : Nat × Nat} {off : Nat} {us : List Value} (h : unfrozen arr fr) (hl : off + us.length ≤ arr.size) : unfrozen (overA arr off us) fr := fun i hi => h i (by rw [overA_size hl] at hi; exact hi)

theorem opStore_sound (hE : EOK P E) {t : TypeId} {a v : SV} {p : Plan} {m : Mem} {κ : Kont α} (h : (opStore E t a v p m κ).holds L) :
    ∃ m', (κ .undef p m').holds L ∧ (Shape m m' ∧ Shape m' m) ∧ ∀ w0 R0 ρ w (av vv : Value), MRel w0 R0 ρ w m → Rep (RO w0 R0 ρ w m) ρ m.next w a av → Rep (RO w0 R0 ρ w m) ρ m.next w v vv →
      ∃ w', (Instr.storeAt t av vv).run P w = .ok () w' ∧ MRel w0 R0 ρ w' m' ∧ MExt w0 R0 ρ w m ρ w' m' := by
  unfold opStore at h
  cases hr : E.row t with
  | none => rw [hr] at h; exact h.elim
  | some r =>
    rw [hr] at h
    have hok := hE.row t r hr
    dsimp only at h
    split at h
    · exact h.elim
    · rename_i hs
      simp only [Bool.and_eq_true, beq_iff_eq] at hs
      cases a <;> try exact h.elim
      case ptr id off =>
        dsimp only at h
        cases hg : m.get id with
        | none => rw [hg] at h; exact h.elim
        | some B =>
          rw [hg] at h
          cases B <;> try exact h.elim
          case cells cs =>
            dsimp only at h
            have key : ∃ m', (κ .undef p m').holds L ∧ ((v.cells = [] ∧ MSet m id (some (.cells cs)) m') ∨ (off + v.cells.length ≤ cs.length ∧ MSet m id (some (.cells (over cs off v.cells))) m')) := by
              rcases overK_holds _ _ _ _ h with ⟨h0, h1⟩ | ⟨h0, h1⟩
              · obtain ⟨m', h2, h3⟩ := Mem.set_holds h1
                exact ⟨m', h3, .inl ⟨h0, h2⟩⟩
              · obtain ⟨m', h2, h3⟩ := Mem.set_holds h1
                exact ⟨m', h3, .inr ⟨h0, h2⟩⟩
            obtain ⟨m', h1, h2⟩ := key
            have hsh : Shape m m' ∧ Shape m' m := by
              rcases h2 with ⟨_, h2⟩ | ⟨h0, h2⟩
              · exact h2.shape hg (Box.like_refl _)
              · exact h2.shape hg (by simp only [Box.like, over, List.length_append, List.length_take, List.length_drop]; omega)
            refine ⟨m', h1, hsh, fun w0 R0 ρ w av vv hm ha hv => ?_⟩
            obtain ⟨_, rfl⟩ := ha
            obtain ⟨hc1, hc2⟩ := hv.cells hs.2
            obtain ⟨arr, e, fr, k1, k2, k3⟩ := hm.box id _ hg
            have hlen := hc1.length
            have hal : arr.toList.length = cs.length := k3.length
            rcases h2 with ⟨h0, h2⟩ | ⟨h0, h2⟩
            · rw [h0] at hlen hs
              have hnil : vv.cells.toList = [] := List.eq_nil_of_length_eq_zero hlen
              refine ⟨w, ?_, hm.setBox hg trivial h2 rfl rfl rfl rfl (fun _ _ => rfl) fun R e' => ⟨arr, e, fr, k1, k2, RepL.mono e' _ _ k3⟩⟩
              have hsz : vv.cells.size = r.size := by rw [hs.1]; simp [← Array.length_toList, hnil]
              simp only [Instr.storeAt, Instr.sureAddr, storeVar, pure_bind, Sem.run_bind, run_sizeOf' hok, Result.andThen_ok, hsz, ne_eq, not_true_eq_false, if_false, Sem.run_pure, hnil, storeCells]
            · obtain ⟨w', r1, r2, r3, r4, r5, r6, r7⟩ := run_storeVar' (P := P) hok (o := off) (v := vv) k1 k2 (by simp at hal; omega) hc2 (by rw [hlen]; exact hs.1)
              refine ⟨w', by simpa [Instr.storeAt, Instr.sureAddr] using r1, hm.setBox hg trivial h2 r3 r4 r5 r6 r7 fun R e' => ⟨_, e, fr, r2, unfrozen_over k2 (by simp at hal; omega), over_rep (RepL.mono e' _ _ k3) (RepL.mono e' _ _ hc1)⟩⟩
      case rptr id sz i off =>
        dsimp only at h
        cases hg : m.get id with
        | none => rw [hg] at h; exact h.elim
        | some B =>
          rw [hg] at h
          cases B <;> try exact h.elim
          case rows u l =>
            dsimp only at h
            split at h
            · rename_i hsz
              obtain ⟨hi0, h⟩ := h
              have hi : i < l.length := by simpa using hi0
              have hszu : sz = u.sz := by simpa using hsz
              have key : ∃ m' cs x, (κ .undef p m').holds L ∧ unflat u cs = some (x, []) ∧ MSet m id (some (.rows u (l.set i x))) m' ∧ ((v.cells = [] ∧ cs = flat u (l.getD i u.dflt)) ∨ (off + v.cells.length ≤ (flat u (l.getD i u.dflt)).length ∧ cs = over (flat u (l.getD i u.dflt)) off v.cells)) := by
                rcases overK_holds _ _ _ _ h with ⟨h0, h1⟩ | ⟨h0, h1⟩
                all_goals
                  split at h1
                  · rename_i x hx
                    obtain ⟨m', h2, h3⟩ := Mem.set_holds h1
                    exact ⟨m', _, x, h3, hx, h2, by first | exact .inl ⟨h0, rfl⟩ | exact .inr ⟨h0, rfl⟩⟩
                  · exact h1.elim
              obtain ⟨m', cs', x, h1, hx, h2, h3⟩ := key
              refine ⟨m', h1, h2.shape hg ⟨rfl, by simp⟩, fun w0 R0 ρ w av vv hm ha hv => ?_⟩
              obtain ⟨_, rfl⟩ := ha
              obtain ⟨hc1, hc2⟩ := hv.cells hs.2
              have hlen := hc1.length
              obtain ⟨b1, b2, bp⟩ := hm.box id _ hg
              have hcap : 0 < (ρ id).2.2 := by omega
              obtain ⟨arr, e, fr, k1, k2, k3, k4⟩ := bp hcap
              obtain ⟨cs, q1, q2, q3⟩ := k4 i hi
              have hget : l.getD i u.dflt = l[i] := by simp [hi]
              obtain ⟨q4, q5⟩ := RepD.flat (ρ := ρ) (n := m.next) u _ cs q3
              rw [hget] at h3
              have hfl := flat_length u l[i]
              -- the room
              have hroom : i * u.sz + u.sz ≤ arr.size := by
                rw [k3]
                have : (i + 1) * u.sz ≤ (ρ id).2.2 * u.sz := Nat.mul_le_mul_right _ (by omega)
                rwa [Nat.succ_mul] at this
              have hoff : off + vv.cells.toList.length ≤ u.sz ∨ vv.cells.toList = [] := by
                rcases h3 with ⟨h0, _⟩ | ⟨h0, _⟩
                · right; exact List.eq_nil_of_length_eq_zero (by rw [hlen, h0]; rfl)
                · left; rw [hlen]; omega
              have hrun : ∃ w', (Instr.storeAt t (.pointer (some ⟨(ρ id).1, i * sz + off, none⟩)) vv).run P w = .ok () w' ∧ w'.heap[(ρ id).1]? = some (.cells (if vv.cells.toList = [] then arr else overA arr (i * u.sz + off) vv.cells.toList) e fr) ∧ w'.os = w.os ∧ w'.tape = w.tape ∧ w'.output = w.output ∧ w'.heap.size = w.heap.size ∧ (∀ k, k ≠ (ρ id).1 → w'.heap[k]? = w.heap[k]?) := by
                by_cases hnil : vv.cells.toList = []
                · refine ⟨w, ?_, by rw [if_pos hnil]; exact k1, rfl, rfl, rfl, rfl, fun _ _ => rfl⟩
                  have h00 : r.size = 0 := by rw [hs.1, ← hlen, hnil]; rfl
                  have hsz : vv.cells.size = r.size := by rw [h00]; simp [← Array.length_toList, hnil]
                  simp only [Instr.storeAt, Instr.sureAddr, storeVar, pure_bind, Sem.run_bind, run_sizeOf' hok, Result.andThen_ok, hsz, ne_eq, not_true_eq_false, if_false, Sem.run_pure, hnil, storeCells]
                · rw [if_neg hnil]
                  have ho : off + vv.cells.toList.length ≤ u.sz := hoff.resolve_right hnil
                  obtain ⟨w', r1, r2⟩ := run_storeVar' (P := P) hok (o := i * u.sz + off) (v := vv) k1 k2 (by omega) hc2 (by rw [hlen]; exact hs.1)
                  exact ⟨w', by rw [hszu]; simpa [Instr.storeAt, Instr.sureAddr] using r1, r2⟩
              obtain ⟨w', r1, r2, r3, r4, r5, r6, r7⟩ := hrun
              refine ⟨w', r1, hm.setBox hg hcap h2 r3 r4 r5 r6 r7 fun R e' => ⟨by simpa using b1, by simpa using b2, fun _ => ⟨_, e, fr, r2, ?_, ?_, ?_⟩⟩⟩
              · split
                · exact k2
                · rename_i hnil
                  have ho : off + vv.cells.toList.length ≤ u.sz := hoff.resolve_right hnil
                  exact unfrozen_over k2 (by omega)
              · split
                · exact k3
                · rename_i hnil
                  have ho : off + vv.cells.toList.length ≤ u.sz := hoff.resolve_right hnil
                  rw [overA_size (by omega)]; exact k3
              · intro j hj
                rw [List.length_set] at hj
                by_cases hji : j = i
                · subst hji
                  -- the element that was turned
                  have hcells : ∃ us : List Value, us.length = u.sz ∧ RepL R ρ m.next w' cs' us ∧ ∀ k, k < u.sz → (if vv.cells.toList = [] then arr else overA arr (j * u.sz + off) vv.cells.toList)[j * u.sz + k]? = us[k]? := by
                    rcases h3 with ⟨h0, rfl⟩ | ⟨h0, rfl⟩
                    · have hnil : vv.cells.toList = [] := List.eq_nil_of_length_eq_zero (by rw [hlen, h0]; rfl)
                      rw [if_pos hnil]
                      exact ⟨cs, q1, RepL.mono e' _ _ q5, q2⟩
                    · by_cases hnil : vv.cells.toList = []
                      · have hvn : v.cells = [] := List.eq_nil_of_length_eq_zero (by rw [← hlen, hnil]; rfl)
                        rw [if_pos hnil]
                        refine ⟨cs, q1, ?_, q2⟩
                        have : over (flat u l[j]) off v.cells = flat u l[j] := by rw [hvn]; simp [over]
                        rw [this]; exact RepL.mono e' _ _ q5
                      · rw [if_neg hnil]
                        refine ⟨cs.take off ++ vv.cells.toList ++ cs.drop (off + vv.cells.toList.length), ?_, ?_, fun k hk => ?_⟩
                        · simp at hlen ⊢; omega
                        · unfold over
                          rw [show off + vv.cells.toList.length = off + v.cells.length by rw [hlen]]
                          exact (((RepL.mono e' _ _ q5).take off).append (RepL.mono e' _ _ hc1)).append ((RepL.mono e' _ _ q5).drop _)
                        · have ho : off + vv.cells.toList.length ≤ u.sz := hoff.resolve_right hnil
                          rw [overA_get (by omega)]
                          by_cases c1 : off ≤ k ∧ k < off + vv.cells.toList.length
                          · rw [if_pos ⟨by omega, by omega⟩, List.append_assoc, List.getElem?_append_right (by rw [List.length_take]; omega), List.length_take, Nat.min_eq_left (by omega), List.getElem?_append_left (by omega), show j * u.sz + k - (j * u.sz + off) = k - off by omega]
                          · rw [if_neg (by omega), q2 k hk]
                            by_cases c2 : k < off
                            · rw [List.append_assoc, List.getElem?_append_left (by rw [List.length_take]; omega), List.getElem?_take, if_pos c2]
                            · rw [List.getElem?_append_right (by rw [List.length_append, List.length_take]; omega), List.length_append, List.length_take, Nat.min_eq_left (by omega), List.getElem?_drop, show off + vv.cells.toList.length + (k - (off + vv.cells.toList.length)) = k by omega]
                  obtain ⟨us, hus, hrep, hcell⟩ := hcells
                  obtain ⟨v1, v2, hv12, hl1, hd, hr2⟩ := RepD.unflat u cs' x [] us hx hrep
                  rw [show v2 = [] from hr2, List.append_nil] at hv12
                  subst hv12
                  refine ⟨us, hus, hcell, ?_⟩
                  simpa using hd
                · obtain ⟨ds, d1, d2, d3⟩ := k4 j hj
                  refine ⟨ds, d1, fun k hk => ?_, ?_⟩
                  · rw [← d2 k hk]
                    split
                    · rfl
                    · rename_i hnil
                      have ho : off + vv.cells.toList.length ≤ u.sz := hoff.resolve_right hnil
                      rw [overA_get (by omega)]
                      rcases Nat.lt_or_ge j i with hlt | hge
                      · have hb : j * u.sz + u.sz ≤ i * u.sz := by
                          have : (j + 1) * u.sz ≤ i * u.sz := Nat.mul_le_mul_right _ hlt
                          rwa [Nat.succ_mul] at this
                        rw [if_neg (by omega)]
                      · have hb : i * u.sz + u.sz ≤ j * u.sz := by
                          have : (i + 1) * u.sz ≤ j * u.sz := Nat.mul_le_mul_right _ (by omega)
                          rwa [Nat.succ_mul] at this
                        rw [if_neg (by omega)]
                  · have : (l.set i x)[j]'(by simpa using hj) = l[j] := by simp [List.getElem_set, Ne.symm hji]
                    rw [this]
                    exact RepD.mono e'.keep _ _ _ d3
            · exact h.elim
end
end Go.Sx
