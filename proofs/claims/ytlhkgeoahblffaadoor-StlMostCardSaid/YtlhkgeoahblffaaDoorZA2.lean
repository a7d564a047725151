/-
  Sx4: what the operations on memory, addresses and parts yield: each agrees with the model's.
  Sx5: addresses, parts, comparisons and arithmetic: each agrees with the model's.
  Sx6: arithmetic, strings, slices, append, what is built and made, ranges over strings: each agrees with the model's.
  Sx7: conversions, slices, append, what is built and made, ranges over strings.
  Sx8: parts of tuples, slices of strings and lists, append, lengths, what is built and made, ranges over strings.
  Sx9: append, lengths, the least and the greatest, what is built and made, ranges over strings.
-/
import Derived.Test.YtlhkgeoahblffaaDoorZA1
import Derived.Lib.ConvBytes
import Derived.Lib.Strings
import Derived.Laws.BytesString
import Derived.Laws.BytesArg
import Derived.Laws.Append
set_option linter.unusedSimpArgs false
set_option linter.unusedVariables false
namespace Go.Sx
open Go.RowKit

structure RowOK (P : Program) (t : TypeId) (r : Row) : Prop where
  und : P.underlying t = some r.desc
  info : ∃ i z, P.info? t = some i ∧ i.size = r.size ∧ i.bytes = r.bytes ∧ i.zero = some z ∧ (∀ R ρ n w, RepL R ρ n w r.zero z.cells.toList) ∧ (∀ u, r.ty = some u → ∀ R w, RepD R w u u.dflt z.cells.toList)
  eqg : r.eqg = P.eqGuardType P.depth t
  held : r.held = P.stoodInHeld t
  el : (r.ty = some (.int .u8) ∨ r.desc = .int .u8) → r.size = 1 → El8 t

structure EOK (P : Program) (E : Env) : Prop where
  row : ∀ t r, E.row t = some r → RowOK P t r
  fn : ∀ f fn, E.fn f = some fn → P.funcs[f]? = some fn
  zv : ∀ t z, E.zv t = some z → ∃ i, P.info? t = some i ∧ i.zero = some z

/-- A value and a world, or nothing. -/
def Val (Φ : Value → World → Prop) : Result Value → Prop
  | .ok v w => Φ v w
  | .halt _ _ => False

/-- What an operation leaves. -/
def OpOut (w0 : World) (R0 : Nat → Prop) (ρ : Rho) (w : World) (m : Mem) (v : SV) (m' : Mem) (u : Value) (w' : World) : Prop :=
  ∃ ρ', MRel w0 R0 ρ' w' m' ∧ MExt w0 R0 ρ w m ρ' w' m' ∧ Rep (RO w0 R0 ρ' w' m') ρ' m'.next w' v u

theorem OpOut.same {w0 : World} {R0 : Nat → Prop} {ρ : Rho} {w : World} {m : Mem} {v : SV} {u : Value} (h : MRel w0 R0 ρ w m) (hv : Rep (RO w0 R0 ρ w m) ρ m.next w v u) : OpOut w0 R0 ρ w m v m u w :=
  ⟨ρ, h, Ext.refl _ _ _ _, hv⟩

section
variable {P : Program} {E : Env} {α : Type} {L : α → Prop}

theorem run_isAgg {t : TypeId} {r : Row} (h : RowOK P t r) (w : World) : (isAgg t).run P w = .ok r.isAgg w := by
  simp only [isAgg, Sem.run_bind, run_underlying h.und, Result.andThen_ok]
  unfold Row.isAgg
  cases r.desc <;> rfl
theorem run_sizeOf' {t : TypeId} {r : Row} (h : RowOK P t r) (w : World) : (sizeOf t).run P w = .ok r.size w := by
  obtain ⟨i, z, h1, h2, _⟩ := h.info
  simp only [sizeOf, typeInfo, Sem.run_bind, run_program, Result.andThen_ok, h1, Sem.run_pure, h2]
theorem run_typeInfo' {t : TypeId} {r : Row} (h : RowOK P t r) : ∃ i, (∀ w, (typeInfo t).run P w = .ok i w) ∧ i.bytes = r.bytes ∧ i.size = r.size := by
  obtain ⟨i, z, h1, h2, h3, _⟩ := h.info
  exact ⟨i, fun w => by simp only [typeInfo, Sem.run_bind, run_program, Result.andThen_ok, h1, Sem.run_pure], h3, h2⟩
theorem run_zero' {t : TypeId} {r : Row} (h : RowOK P t r) : ∃ z : Value, (∀ w, (zeroValue t).run P w = .ok z w) ∧ (∀ R ρ n w, RepL R ρ n w r.zero z.cells.toList) ∧ (∀ u, r.ty = some u → ∀ R w, RepD R w u u.dflt z.cells.toList) := by
  obtain ⟨i, z, h1, _, _, h4, h5, h6⟩ := h.info
  exact ⟨z, fun w => by simp only [zeroValue, typeInfo, Sem.run_bind, run_program, Result.andThen_ok, h1, Sem.run_pure, h4], h5, h6⟩

/-- Cells from (g, o) on. -/
def CellsAt (R : Nat → Prop) (ρ : Rho) (n : Nat) (w : World) (g o : Nat) (cs : List SV) : Prop :=
  ∃ vs : List Value, RepL R ρ n w cs vs ∧ ∀ j, j < vs.length → w.cell? ⟨g, o + j, none⟩ = vs[j]?

/-- Which value is loaded. -/
def loaded (r : Row) (cs : List SV) (off : Nat) : Option SV :=
  match r.isAgg with
  | true => if r.size = 0 ∨ off + r.size ≤ cs.length then some (.agg ((cs.drop off).take r.size)) else none
  | false => cs[off]?

theorem loadCells_holds {r : Row} {cs : List SV} {off : Nat} {p : Plan} {m : Mem} {κ : Kont α} (h : (loadCells r cs off p m κ).holds L) : ∃ v, loaded r cs off = some v ∧ (κ v p m).holds L := by
  unfold loadCells at h
  unfold loaded
  cases hr : r.isAgg with
  | true =>
    rw [hr] at h
    rcases takeK_holds _ _ _ _ h with ⟨h0, h1⟩ | ⟨h0, h1⟩
    · exact ⟨_, by rw [if_pos (.inl h0), h0], by simpa using h1⟩
    · exact ⟨_, by rw [if_pos (.inr h0)], h1⟩
  | false =>
    rw [hr] at h
    dsimp only at h
    rw [nth_eq] at h
    cases hc : cs[off]? with
    | none => rw [hc] at h; exact h.elim
    | some v => rw [hc] at h; dsimp only at h; rw [frc_eq] at h; exact ⟨v, rfl, h⟩

theorem run_loadCells_at {R : Nat → Prop} {ρ : Rho} {n : Nat} {w : World} {g o : Nat} {cs : List SV} {off k : Nat} (hc : CellsAt R ρ n w g o cs) (hk : k = 0 ∨ off + k ≤ cs.length) :
    ∃ us : List Value, (Go.loadCells ⟨g, o + off, none⟩ k).run P w = .ok ⟨us⟩ w ∧ RepL R ρ n w ((cs.drop off).take k) us := by
  obtain ⟨vs, h1, h2⟩ := hc
  rcases hk with rfl | hk
  · exact ⟨[], rfl, by simp [RepL]⟩
  · have hl := h1.length
    have hlen : ((vs.drop off).take k).length = k := by simp; omega
    refine ⟨(vs.drop off).take k, ?_, (h1.drop off).take k⟩
    have := run_loadCells_list (P := P) w ⟨g, o + off, none⟩ ((vs.drop off).take k) (fun j v hj => by
      have hjk : j < k := by
        have := (List.getElem?_eq_some_iff.1 hj).1
        omega
      rw [List.getElem?_take, if_pos hjk, List.getElem?_drop] at hj
      rw [Addr.add_lit, Nat.add_assoc, h2 (off + j) (by omega)]
      exact hj)
    rw [hlen] at this
    exact this

theorem run_loadVar' {t : TypeId} {r : Row} (hr : RowOK P t r) {R : Nat → Prop} {ρ : Rho} {n : Nat} {w : World} {g o : Nat} {cs : List SV} {off : Nat} {v : SV} (hc : CellsAt R ρ n w g o cs) (hv : loaded r cs off = some v) :
    ∃ u, (loadVar t ⟨g, o + off, none⟩).run P w = .ok u w ∧ Rep R ρ n w v u := by
  unfold loaded at hv
  simp only [loadVar, Sem.run_bind, run_isAgg hr, Result.andThen_ok]
  cases ha : r.isAgg with
  | true =>
    rw [ha] at hv
    dsimp only at hv
    split at hv
    · rename_i hk
      injection hv with hv
      obtain ⟨us, h1, h2⟩ := run_loadCells_at (P := P) hc hk
      refine ⟨.agg ⟨us⟩, ?_, by rw [← hv]; exact ⟨us, rfl, h2⟩⟩
      simp only [if_true, Sem.run_bind, run_sizeOf' hr, Result.andThen_ok, h1, Sem.run_pure]
    · cases hv
  | false =>
    rw [ha] at hv
    dsimp only at hv
    obtain ⟨vs, h1, h2⟩ := hc
    obtain ⟨u, h3, h4⟩ := h1.get hv
    refine ⟨u, ?_, h4⟩
    have hlt : off < vs.length := (List.getElem?_eq_some_iff.1 h3).1
    simp [h2 off hlt, h3]

/-- A pointer that a value says: where it leads, and what lies there. -/
theorem ptr_cells {w0 : World} {R0 : Nat → Prop} {ρ : Rho} {w : World} {m : Mem} (hm : MRel w0 R0 ρ w m) {id : Nat} {cs : List SV} (h : m.get id = some (.cells cs)) : CellsAt (RO w0 R0 ρ w m) ρ m.next w (ρ id).1 0 cs := by
  obtain ⟨arr, e, fr, h1, h2, h3⟩ := hm.box id _ h
  exact ⟨arr.toList, h3, fun j hj => by rw [Nat.zero_add, cell_of_row w _ j arr e fr h1]; simp⟩

theorem ptr_obj {w0 : World} {R0 : Nat → Prop} {ρ : Rho} {w : World} {m : Mem} (hm : MRel w0 R0 ρ w m) {id : Nat} {t : TypeId} {cs : List SV} (h : m.get id = some (.obj t cs)) : CellsAt (RO w0 R0 ρ w m) ρ m.next w (ρ id).1 0 cs := by
  obtain ⟨arr, h1, h3⟩ := hm.box id _ h
  exact ⟨arr.toList, h3, fun j hj => by rw [Nat.zero_add, cell_of_row w _ j arr t (0, 0) h1]; simp⟩

theorem elem_cells {R : Nat → Prop} {ρ : Rho} {n : Nat} {w : World} {u : Ty} {l : List u.T} {b o i : Nat} (h : ElemsAt R w u b o l) (hi : i < l.length) : CellsAt R ρ n w b (o + i * u.sz) (flat u (l.getD i u.dflt)) := by
  obtain ⟨cs, h1, h2, h3⟩ := h.2 i hi
  obtain ⟨h4, h5⟩ := RepD.flat (ρ := ρ) (n := n) u _ cs h3
  refine ⟨cs, ?_, fun j hj => by rw [Nat.add_assoc]; exact h2 j (by omega)⟩
  have : l.getD i u.dflt = l[i] := by simp [hi]
  rw [this]; exact h5

theorem rows_cells {w0 : World} {R0 : Nat → Prop} {ρ : Rho} {w : World} {m : Mem} (hm : MRel w0 R0 ρ w m) {id : Nat} {u : Ty} {l : List u.T} (h : m.get id = some (.rows u l)) {i : Nat} (hi : i < l.length) :
    CellsAt (RO w0 R0 ρ w m) ρ m.next w (ρ id).1 (i * u.sz) (flat u (l.getD i u.dflt)) := by
  obtain ⟨_, hc, hp⟩ := hm.box id _ h
  obtain ⟨arr, e, fr, h1, h2, h3, h4⟩ := hp (by omega)
  obtain ⟨cs, k1, k2, k3⟩ := h4 i hi
  obtain ⟨h5, h6⟩ := RepD.flat (ρ := ρ) (n := m.next) u _ cs k3
  refine ⟨cs, ?_, fun j hj => by rw [cell_of_row w _ _ arr e fr h1]; exact k2 j (by omega)⟩
  have : l.getD i u.dflt = l[i] := by simp [hi]
  rw [this]; exact h6

theorem opLoad_sound (hE : EOK P E) {t : TypeId} {a : SV} {p : Plan} {m : Mem} {κ : Kont α} (h : (opLoad E t a p m κ).holds L) :
    ∃ v, (κ v p m).holds L ∧ ∀ m2, Up m m2 → ∀ w0 R0 ρ w (av : Value), MRel w0 R0 ρ w m2 → Rep (RO w0 R0 ρ w m2) ρ m2.next w a av → ∃ u, (Instr.loadAt t av).run P w = .ok u w ∧ Rep (RO w0 R0 ρ w m2) ρ m2.next w v u := by
  unfold opLoad at h
  cases hr : E.row t with
  | none => rw [hr] at h; exact h.elim
  | some r =>
    rw [hr] at h
    have hok := hE.row t r hr
    cases a <;> try exact h.elim
    case ptr id off =>
      dsimp only at h
      cases hg : m.get id with
      | none => rw [hg] at h; exact h.elim
      | some B =>
        rw [hg] at h
        cases B <;> try exact h.elim
        case cells cs =>
          obtain ⟨v, h1, h2⟩ := loadCells_holds h
          refine ⟨v, h2, fun m2 hup w0 R0 ρ w av hm ha => ?_⟩
          obtain ⟨_, rfl⟩ := ha
          obtain ⟨u, h3, h4⟩ := run_loadVar' hok (ptr_cells hm (hup _ _ hg)) h1
          refine ⟨u, ?_, h4⟩
          rw [Nat.zero_add] at h3
          simpa [Instr.loadAt, Instr.sureAddr] using h3
        case obj _ cs =>
          obtain ⟨v, h1, h2⟩ := loadCells_holds h
          refine ⟨v, h2, fun m2 hup w0 R0 ρ w av hm ha => ?_⟩
          obtain ⟨_, rfl⟩ := ha
          obtain ⟨u, h3, h4⟩ := run_loadVar' hok (ptr_obj hm (hup _ _ hg)) h1
          refine ⟨u, ?_, h4⟩
          rw [Nat.zero_add] at h3
          simpa [Instr.loadAt, Instr.sureAddr] using h3
    case eptr u l i off =>
      obtain ⟨v, h1, h2⟩ := loadCells_holds h
      refine ⟨v, h2, fun m2 hup w0 R0 ρ w av hm ha => ?_⟩
      obtain ⟨b, o, rfl, hi, he⟩ := ha
      obtain ⟨x, h3, h4⟩ := run_loadVar' hok (elem_cells (ρ := ρ) (n := m2.next) he hi) h1
      refine ⟨x, ?_, h4⟩
      rw [Nat.add_assoc] at h3
      simpa [Instr.loadAt, Instr.sureAddr] using h3
    case rptr id sz i off =>
      dsimp only at h
      cases hg : m.get id with
      | none => rw [hg] at h; exact h.elim
      | some B =>
        rw [hg] at h
        cases B <;> try exact h.elim
        case rows u l =>
          dsimp only at h
          split at h
          · rename_i hsz0
            obtain ⟨hsz2, h⟩ := h
            have hsz : sz = u.sz ∧ i < l.length := ⟨by simpa using hsz0, by simpa using hsz2⟩
            obtain ⟨v, h1, h2⟩ := loadCells_holds h
            refine ⟨v, h2, fun m2 hup w0 R0 ρ w av hm ha => ?_⟩
            obtain ⟨_, rfl⟩ := ha
            obtain ⟨x, h3, h4⟩ := run_loadVar' hok (rows_cells hm (hup _ _ hg) hsz.2) h1
            refine ⟨x, ?_, h4⟩
            rw [← hsz.1] at h3
            simpa [Instr.loadAt, Instr.sureAddr] using h3
          · exact h.elim

/-! ### Stores -/

theorem all1_spec : ∀ (l : List SV), all1 l = true → ∀ x ∈ l, x.one = true
  | [], _, x, hx => by cases hx
  | y :: ys, h, x, hx => by
    change (match y.one with | true => all1 ys | false => false) = true at h
    cases hy : y.one with
    | false => rw [hy] at h; cases h
    | true =>
      rw [hy] at h
      cases hx with
      | head => exact hy
      | tail _ hx => exact all1_spec ys h x hx

theorem one_cell {R : Nat → Prop} {ρ : Rho} {n : Nat} {w : World} {x : SV} {v : Value} (h : Rep R ρ n w x v) (h1 : x.one = true) : v.oneCell' = true := by
  cases x <;> simp only [SV.one] at h1 <;> try (cases h1; done)
  case int => rw [show v = _ from h]; rfl
  case bool => rw [show v = _ from h]; rfl
  case str => rw [show v = _ from h]; rfl
  case nilS => rw [show v = _ from h]; rfl
  case list t l =>
    obtain ⟨a, cap, hv, _⟩ := h
    injection hv with hv
    rw [hv]; rfl
  case row => obtain ⟨a, h2, _⟩ := h.2; rw [h2]; rfl
  case arr => rw [show v = _ from h.2]; rfl
  case ptr => rw [show v = _ from h.2]; rfl
  case nilP => rw [show v = _ from h]; rfl
  case eptr => obtain ⟨b, o, rfl, _⟩ := h; rfl
  case rptr => rw [show v = _ from h.2]; rfl
  case fn => obtain ⟨a, b, rfl, _⟩ := h; rfl
  case raw u =>
    rw [show v = u from h]
    cases u <;> first | rfl | (cases h1; done)

/-- The cells of a value. -/
theorem Rep.cells {R : Nat → Prop} {ρ : Rho} {n : Nat} {w : World} {x : SV} {v : Value} (h : Rep R ρ n w x v) (h1 : all1 x.cells = true) : RepL R ρ n w x.cells v.cells.toList ∧ ∀ u ∈ v.cells.toList, u.oneCell' = true := by
  have key : RepL R ρ n w x.cells v.cells.toList := by
    cases x with
    | agg cs => obtain ⟨vs, rfl, h2⟩ := h; exact h2
    | _ =>
      have hx := all1_spec _ h1 _ (List.mem_singleton.2 rfl)
      have ho := one_cell h hx
      have hv : v.cells = #[v] := by cases v <;> first | rfl | (cases ho; done)
      rw [hv]
      exact ⟨v, [], rfl, h, rfl⟩
  refine ⟨key, fun u hu => ?_⟩
  obtain ⟨i, hi⟩ := List.getElem?_of_mem hu
  have hl := key.length
  have hlt : i < x.cells.length := by have := (List.getElem?_eq_some_iff.1 hi).1; omega
  obtain ⟨c, hc⟩ : ∃ c, x.cells[i]? = some c := ⟨_, List.getElem?_eq_getElem hlt⟩
  obtain ⟨u', h2, h3⟩ := key.get hc
  rw [hi] at h2; injection h2 with h2; subst h2
  exact one_cell h3 (all1_spec _ h1 c (List.mem_of_getElem? hc))

/-- What a row of cells is behind a store. -/
def overA (arr : Array Value) (off : Nat) (vs : List Value) : Array Value := ⟨arr.toList.take off ++ vs ++ arr.toList.drop (off + vs.length)⟩

theorem overA_nil (arr : Array Value) (off : Nat) : overA arr off [] = arr := by
  apply Array.ext'
  simp [overA]
theorem overA_size {arr : Array Value} {off : Nat} {vs : List Value} (h : off + vs.length ≤ arr.size) : (overA arr off vs).size = arr.size := by
  simp [overA]; omega
theorem overA_get {arr : Array Value} {off : Nat} {vs : List Value} (h : off + vs.length ≤ arr.size) (k : Nat) : (overA arr off vs)[k]? = if off ≤ k ∧ k < off + vs.length then vs[k - off]? else arr[k]? := by
  have hl : arr.toList.length = arr.size := by simp
  rw [← Array.getElem?_toList, ← Array.getElem?_toList]
  simp only [overA]
  by_cases h1 : k < off
  · rw [if_neg (by omega), List.append_assoc, List.getElem?_append_left (by rw [List.length_take]; omega), List.getElem?_take, if_pos h1]
  · by_cases h2 : k < off + vs.length
    · rw [if_pos ⟨by omega, h2⟩, List.append_assoc, List.getElem?_append_right (by rw [List.length_take]; omega), List.length_take, Nat.min_eq_left (by omega), List.getElem?_append_left (by omega)]
    · rw [if_neg (by omega), List.getElem?_append_right (by rw [List.length_append, List.length_take]; omega), List.length_append, List.length_take, Nat.min_eq_left (by omega), List.getElem?_drop, show off + vs.length + (k - (off + vs.length)) = k by omega]
theorem overA_cons {arr : Array Value} {off : Nat} {v : Value} {vs : List Value} (h : off + (v :: vs).length ≤ arr.size) : overA (arr.setIfInBounds off v) (off + 1) vs = overA arr off (v :: vs) := by
  simp only [List.length_cons] at h
  apply Array.ext_getElem?
  intro k
  rw [overA_get (by simp; omega), overA_get (by simp; omega)]
  simp only [List.length_cons]
  by_cases h1 : k = off
  · subst h1
    rw [if_neg (by omega), if_pos ⟨by omega, by omega⟩]
    simp [Array.getElem?_setIfInBounds, show k < arr.size by omega]
  · by_cases h2 : off + 1 ≤ k ∧ k < off + 1 + vs.length
    · rw [if_pos h2, if_pos ⟨by omega, by omega⟩, show k - off = (k - (off + 1)) + 1 by omega, List.getElem?_cons_succ]
    · rw [if_neg h2, if_neg (by omega), Array.getElem?_setIfInBounds_ne (Ne.symm h1)]

theorem run_storeCells' (g : Nat) (o : Nat) (e : TypeId) (fr : Nat × Nat) : ∀ (vs : List Value) (i : Nat) (cur : Array Value) (w : World), w.heap[g]? = some (.cells cur e fr) → unfrozen cur fr → o + i + vs.length ≤ cur.size → (∀ v ∈ vs, v.oneCell' = true) →
    ∃ w', (storeCells ⟨g, o, none⟩ vs i).run P w = .ok () w' ∧ w'.heap[g]? = some (.cells (overA cur (o + i) vs) e fr) ∧ w'.os = w.os ∧ w'.tape = w.tape ∧ w'.output = w.output ∧ w'.heap.size = w.heap.size ∧ (∀ k, k ≠ g → w'.heap[k]? = w.heap[k]?)
  | [], i, cur, w, hg, hu, hl, h1 => ⟨w, rfl, by rw [overA_nil]; exact hg, rfl, rfl, rfl, rfl, fun _ _ => rfl⟩
  | v :: vs, i, cur, w, hg, hu, hl, h1 => by
    simp only [List.length_cons] at hl
    have hc : w.cell? ⟨g, o + i, none⟩ = some (cur[o + i]'(by omega)) := by rw [cell_of_row w g _ cur e fr hg]; simp
    have hf : w.frozen? ⟨g, o + i, none⟩ = false := by
      have := hu (o + i) (by omega)
      simp only [World.frozen?, hg]
      by_cases h2 : fr.1 ≤ o + i
      · have h3 : ¬ o + i < fr.2 := fun h3 => this ⟨h2, h3⟩
        simp [h3]
      · simp [h2]
    have hrow := setCell_eq_setRow w g (o + i) cur e fr v hg
    have hg' : (w.setCell ⟨g, o + i, none⟩ v).heap[g]? = some (.cells (cur.setIfInBounds (o + i) v) e fr) := by rw [hrow]; exact setRow_heap w g cur _ e fr hg
    have hu' : unfrozen (cur.setIfInBounds (o + i) v) fr := fun k hk => hu k (by simpa using hk)
    obtain ⟨w', r1, r2, r3, r4, r5, r6, r7⟩ := run_storeCells' g o e fr vs (i + 1) _ _ hg' hu' (by simp; omega) (fun u hu => h1 u (List.mem_cons_of_mem _ hu))
    refine ⟨w', ?_, ?_, r3, r4, r5, r6.trans (by simp), fun k hk => (r7 k hk).trans (heap_setCell_other w _ k v hk)⟩
    · simp only [storeCells, Sem.run_bind, Addr.add_lit, run_store P w _ v _ (h1 v List.mem_cons_self), hc, hf, Bool.false_eq_true, if_false, Result.andThen_ok, r1]
    · rw [r2, ← Nat.add_assoc, overA_cons (by simp; omega)]

theorem run_storeVar' {t : TypeId} {r : Row} (hr : RowOK P t r) {w : World} {g o : Nat} {cur : Array Value} {e : TypeId} {fr : Nat × Nat} {v : Value} (hg : w.heap[g]? = some (.cells cur e fr)) (hu : unfrozen cur fr)
    (hl : o + v.cells.toList.length ≤ cur.size) (h1 : ∀ u ∈ v.cells.toList, u.oneCell' = true) (hs : r.size = v.cells.toList.length) :
    ∃ w', (storeVar t ⟨g, o, none⟩ v).run P w = .ok () w' ∧ w'.heap[g]? = some (.cells (overA cur o v.cells.toList) e fr) ∧ w'.os = w.os ∧ w'.tape = w.tape ∧ w'.output = w.output ∧ w'.heap.size = w.heap.size ∧ (∀ k, k ≠ g → w'.heap[k]? = w.heap[k]?) := by
  obtain ⟨w', r1, r2, r3⟩ := run_storeCells' (P := P) g o e fr v.cells.toList 0 cur w hg hu (by simpa using hl) h1
  refine ⟨w', ?_, by simpa using r2, r3⟩
  have hsz : v.cells.size = r.size := by rw [hs]; simp
  simp only [storeVar, Sem.run_bind, run_sizeOf' hr, Result.andThen_ok, hsz, ne_eq, not_true_eq_false, if_false, Sem.run_pure, r1]

theorem over_rep {R : Nat → Prop} {ρ : Rho} {n : Nat} {w : World} {cs : List SV} {arr : Array Value} {vs : List SV} {us : List Value} {off : Nat} (h : RepL R ρ n w cs arr.toList) (k : RepL R ρ n w vs us) : RepL R ρ n w (over cs off vs) (overA arr off us).toList := by
  unfold over overA
  rw [show off + us.length = off + vs.length by rw [k.length]]
  exact ((h.take off).append k).append (h.drop _)

theorem unfrozen_over {arr : Array Value} {fr : Nat × Nat} {off : Nat} {us : List Value} (h : unfrozen arr fr) (hl : off + us.length ≤ arr.size) : unfrozen (overA arr off us) fr := fun i hi => h i (by rw [overA_size hl] at hi; exact hi)

theorem opStore_sound (hE : EOK P E) {t : TypeId} {a v : SV} {p : Plan} {m : Mem} {κ : Kont α} (h : (opStore E t a v p m κ).holds L) :
    ∃ m', (κ .undef p m').holds L ∧ (Shape m m' ∧ Shape m' m) ∧ ∀ w0 R0 ρ w (av vv : Value), MRel w0 R0 ρ w m → Rep (RO w0 R0 ρ w m) ρ m.next w a av → Rep (RO w0 R0 ρ w m) ρ m.next w v vv →
      ∃ w', (Instr.storeAt t av vv).run P w = .ok () w' ∧ MRel w0 R0 ρ w' m' ∧ MExt w0 R0 ρ w m ρ w' m' := by
  unfold opStore at h
  cases hr : E.row t with
  | none => rw [hr] at h; exact h.elim
  | some r =>
    rw [hr] at h
    have hok := hE.row t r hr
    dsimp only at h
    split at h
    · exact h.elim
    · rename_i hs
      simp only [Bool.and_eq_true, beq_iff_eq] at hs
      cases a <;> try exact h.elim
      case ptr id off =>
        dsimp only at h
        cases hg : m.get id with
        | none => rw [hg] at h; exact h.elim
        | some B =>
          rw [hg] at h
          cases B <;> try exact h.elim
          case cells cs =>
            dsimp only at h
            have key : ∃ m', (κ .undef p m').holds L ∧ ((v.cells = [] ∧ MSet m id (some (.cells cs)) m') ∨ (off + v.cells.length ≤ cs.length ∧ MSet m id (some (.cells (over cs off v.cells))) m')) := by
              rcases overK_holds _ _ _ _ h with ⟨h0, h1⟩ | ⟨h0, h1⟩
              · obtain ⟨m', h2, h3⟩ := Mem.set_holds h1
                exact ⟨m', h3, .inl ⟨h0, h2⟩⟩
              · obtain ⟨m', h2, h3⟩ := Mem.set_holds h1
                exact ⟨m', h3, .inr ⟨h0, h2⟩⟩
            obtain ⟨m', h1, h2⟩ := key
            have hsh : Shape m m' ∧ Shape m' m := by
              rcases h2 with ⟨_, h2⟩ | ⟨h0, h2⟩
              · exact h2.shape hg (Box.like_refl _)
              · exact h2.shape hg (by simp only [Box.like, over, List.length_append, List.length_take, List.length_drop]; omega)
            refine ⟨m', h1, hsh, fun w0 R0 ρ w av vv hm ha hv => ?_⟩
            obtain ⟨_, rfl⟩ := ha
            obtain ⟨hc1, hc2⟩ := hv.cells hs.2
            obtain ⟨arr, e, fr, k1, k2, k3⟩ := hm.box id _ hg
            have hlen := hc1.length
            have hal : arr.toList.length = cs.length := k3.length
            rcases h2 with ⟨h0, h2⟩ | ⟨h0, h2⟩
            · rw [h0] at hlen hs
              have hnil : vv.cells.toList = [] := List.eq_nil_of_length_eq_zero hlen
              refine ⟨w, ?_, hm.setBox hg trivial h2 rfl rfl rfl rfl (fun _ _ => rfl) fun R e' => ⟨arr, e, fr, k1, k2, RepL.mono e' _ _ k3⟩⟩
              have hsz : vv.cells.size = r.size := by rw [hs.1]; simp [← Array.length_toList, hnil]
              simp only [Instr.storeAt, Instr.sureAddr, storeVar, pure_bind, Sem.run_bind, run_sizeOf' hok, Result.andThen_ok, hsz, ne_eq, not_true_eq_false, if_false, Sem.run_pure, hnil, storeCells]
            · obtain ⟨w', r1, r2, r3, r4, r5, r6, r7⟩ := run_storeVar' (P := P) hok (o := off) (v := vv) k1 k2 (by simp at hal; omega) hc2 (by rw [hlen]; exact hs.1)
              refine ⟨w', by simpa [Instr.storeAt, Instr.sureAddr] using r1, hm.setBox hg trivial h2 r3 r4 r5 r6 r7 fun R e' => ⟨_, e, fr, r2, unfrozen_over k2 (by simp at hal; omega), over_rep (RepL.mono e' _ _ k3) (RepL.mono e' _ _ hc1)⟩⟩
          case obj u cs =>
            dsimp only at h
            have key : ∃ m', (κ .undef p m').holds L ∧ ((v.cells = [] ∧ MSet m id (some (.obj u cs)) m') ∨ (off + v.cells.length ≤ cs.length ∧ MSet m id (some (.obj u (over cs off v.cells))) m')) := by
              rcases overK_holds _ _ _ _ h with ⟨h0, h1⟩ | ⟨h0, h1⟩
              · obtain ⟨m', h2, h3⟩ := Mem.set_holds h1
                exact ⟨m', h3, .inl ⟨h0, h2⟩⟩
              · obtain ⟨m', h2, h3⟩ := Mem.set_holds h1
                exact ⟨m', h3, .inr ⟨h0, h2⟩⟩
            obtain ⟨m', h1, h2⟩ := key
            have hsh : Shape m m' ∧ Shape m' m := by
              rcases h2 with ⟨_, h2⟩ | ⟨h0, h2⟩
              · exact h2.shape hg (Box.like_refl _)
              · exact h2.shape hg ⟨rfl, by simp only [over, List.length_append, List.length_take, List.length_drop]; omega⟩
            refine ⟨m', h1, hsh, fun w0 R0 ρ w av vv hm ha hv => ?_⟩
            obtain ⟨_, rfl⟩ := ha
            obtain ⟨hc1, hc2⟩ := hv.cells hs.2
            obtain ⟨arr, k1, k3⟩ := hm.box id _ hg
            have k2 : unfrozen arr (0, 0) := fun i _ h => absurd h.2 (Nat.not_lt_zero _)
            have hlen := hc1.length
            have hal : arr.toList.length = cs.length := k3.length
            rcases h2 with ⟨h0, h2⟩ | ⟨h0, h2⟩
            · rw [h0] at hlen hs
              have hnil : vv.cells.toList = [] := List.eq_nil_of_length_eq_zero hlen
              refine ⟨w, ?_, hm.setBox hg trivial h2 rfl rfl rfl rfl (fun _ _ => rfl) fun R e' => ⟨arr, k1, RepL.mono e' _ _ k3⟩⟩
              have hsz : vv.cells.size = r.size := by rw [hs.1]; simp [← Array.length_toList, hnil]
              simp only [Instr.storeAt, Instr.sureAddr, storeVar, pure_bind, Sem.run_bind, run_sizeOf' hok, Result.andThen_ok, hsz, ne_eq, not_true_eq_false, if_false, Sem.run_pure, hnil, storeCells]
            · obtain ⟨w', r1, r2, r3, r4, r5, r6, r7⟩ := run_storeVar' (P := P) hok (o := off) (v := vv) k1 k2 (by simp at hal; omega) hc2 (by rw [hlen]; exact hs.1)
              refine ⟨w', by simpa [Instr.storeAt, Instr.sureAddr] using r1, hm.setBox hg trivial h2 r3 r4 r5 r6 r7 fun R e' => ⟨_, r2, over_rep (RepL.mono e' _ _ k3) (RepL.mono e' _ _ hc1)⟩⟩
      case rptr id sz i off =>
        dsimp only at h
        cases hg : m.get id with
        | none => rw [hg] at h; exact h.elim
        | some B =>
          rw [hg] at h
          cases B <;> try exact h.elim
          case rows u l =>
            dsimp only at h
            split at h
            · rename_i hsz
              obtain ⟨hi0, h⟩ := h
              have hi : i < l.length := by simpa using hi0
              have hszu : sz = u.sz := by simpa using hsz
              have key : ∃ m' cs x, (κ .undef p m').holds L ∧ unflat u cs = some (x, []) ∧ MSet m id (some (.rows u (l.set i x))) m' ∧ ((v.cells = [] ∧ cs = flat u (l.getD i u.dflt)) ∨ (off + v.cells.length ≤ (flat u (l.getD i u.dflt)).length ∧ cs = over (flat u (l.getD i u.dflt)) off v.cells)) := by
                rcases overK_holds _ _ _ _ h with ⟨h0, h1⟩ | ⟨h0, h1⟩
                all_goals
                  split at h1
                  · rename_i x hx
                    obtain ⟨m', h2, h3⟩ := Mem.set_holds h1
                    exact ⟨m', _, x, h3, hx, h2, by first | exact .inl ⟨h0, rfl⟩ | exact .inr ⟨h0, rfl⟩⟩
                  · exact h1.elim
              obtain ⟨m', cs', x, h1, hx, h2, h3⟩ := key
              refine ⟨m', h1, h2.shape hg ⟨rfl, by simp⟩, fun w0 R0 ρ w av vv hm ha hv => ?_⟩
              obtain ⟨_, rfl⟩ := ha
              obtain ⟨hc1, hc2⟩ := hv.cells hs.2
              have hlen := hc1.length
              obtain ⟨b1, b2, bp⟩ := hm.box id _ hg
              have hcap : 0 < (ρ id).2.2 := by omega
              obtain ⟨arr, e, fr, k1, k2, k3, k4⟩ := bp hcap
              obtain ⟨cs, q1, q2, q3⟩ := k4 i hi
              have hget : l.getD i u.dflt = l[i] := by simp [hi]
              obtain ⟨q4, q5⟩ := RepD.flat (ρ := ρ) (n := m.next) u _ cs q3
              rw [hget] at h3
              have hfl := flat_length u l[i]
              -- the room
              have hroom : i * u.sz + u.sz ≤ arr.size := by
                rw [k3]
                have : (i + 1) * u.sz ≤ (ρ id).2.2 * u.sz := Nat.mul_le_mul_right _ (by omega)
                rwa [Nat.succ_mul] at this
              have hoff : off + vv.cells.toList.length ≤ u.sz ∨ vv.cells.toList = [] := by
                rcases h3 with ⟨h0, _⟩ | ⟨h0, _⟩
                · right; exact List.eq_nil_of_length_eq_zero (by rw [hlen, h0]; rfl)
                · left; rw [hlen]; omega
              have hrun : ∃ w', (Instr.storeAt t (.pointer (some ⟨(ρ id).1, i * sz + off, none⟩)) vv).run P w = .ok () w' ∧ w'.heap[(ρ id).1]? = some (.cells (if vv.cells.toList = [] then arr else overA arr (i * u.sz + off) vv.cells.toList) e fr) ∧ w'.os = w.os ∧ w'.tape = w.tape ∧ w'.output = w.output ∧ w'.heap.size = w.heap.size ∧ (∀ k, k ≠ (ρ id).1 → w'.heap[k]? = w.heap[k]?) := by
                by_cases hnil : vv.cells.toList = []
                · refine ⟨w, ?_, by rw [if_pos hnil]; exact k1, rfl, rfl, rfl, rfl, fun _ _ => rfl⟩
                  have h00 : r.size = 0 := by rw [hs.1, ← hlen, hnil]; rfl
                  have hsz : vv.cells.size = r.size := by rw [h00]; simp [← Array.length_toList, hnil]
                  simp only [Instr.storeAt, Instr.sureAddr, storeVar, pure_bind, Sem.run_bind, run_sizeOf' hok, Result.andThen_ok, hsz, ne_eq, not_true_eq_false, if_false, Sem.run_pure, hnil, storeCells]
                · rw [if_neg hnil]
                  have ho : off + vv.cells.toList.length ≤ u.sz := hoff.resolve_right hnil
                  obtain ⟨w', r1, r2⟩ := run_storeVar' (P := P) hok (o := i * u.sz + off) (v := vv) k1 k2.1 (by omega) hc2 (by rw [hlen]; exact hs.1)
                  exact ⟨w', by rw [hszu]; simpa [Instr.storeAt, Instr.sureAddr] using r1, r2⟩
              obtain ⟨w', r1, r2, r3, r4, r5, r6, r7⟩ := hrun
              refine ⟨w', r1, hm.setBox hg hcap h2 r3 r4 r5 r6 r7 fun R e' => ⟨by simpa using b1, by simpa using b2, fun _ => ⟨_, e, fr, r2, ?_, ?_, ?_⟩⟩⟩
              · split
                · exact k2
                · rename_i hnil
                  have ho : off + vv.cells.toList.length ≤ u.sz := hoff.resolve_right hnil
                  exact ⟨unfrozen_over k2.1 (by omega), k2.2⟩
              · split
                · exact k3
                · rename_i hnil
                  have ho : off + vv.cells.toList.length ≤ u.sz := hoff.resolve_right hnil
                  rw [overA_size (by omega)]; exact k3
              · intro j hj
                rw [List.length_set] at hj
                by_cases hji : j = i
                · subst hji
                  -- the element that was turned
                  have hcells : ∃ us : List Value, us.length = u.sz ∧ RepL R ρ m.next w' cs' us ∧ ∀ k, k < u.sz → (if vv.cells.toList = [] then arr else overA arr (j * u.sz + off) vv.cells.toList)[j * u.sz + k]? = us[k]? := by
                    rcases h3 with ⟨h0, rfl⟩ | ⟨h0, rfl⟩
                    · have hnil : vv.cells.toList = [] := List.eq_nil_of_length_eq_zero (by rw [hlen, h0]; rfl)
                      rw [if_pos hnil]
                      exact ⟨cs, q1, RepL.mono e' _ _ q5, q2⟩
                    · by_cases hnil : vv.cells.toList = []
                      · have hvn : v.cells = [] := List.eq_nil_of_length_eq_zero (by rw [← hlen, hnil]; rfl)
                        rw [if_pos hnil]
                        refine ⟨cs, q1, ?_, q2⟩
                        have : over (flat u l[j]) off v.cells = flat u l[j] := by rw [hvn]; simp [over]
                        rw [this]; exact RepL.mono e' _ _ q5
                      · rw [if_neg hnil]
                        refine ⟨cs.take off ++ vv.cells.toList ++ cs.drop (off + vv.cells.toList.length), ?_, ?_, fun k hk => ?_⟩
                        · simp at hlen ⊢; omega
                        · unfold over
                          rw [show off + vv.cells.toList.length = off + v.cells.length by rw [hlen]]
                          exact (((RepL.mono e' _ _ q5).take off).append (RepL.mono e' _ _ hc1)).append ((RepL.mono e' _ _ q5).drop _)
                        · have ho : off + vv.cells.toList.length ≤ u.sz := hoff.resolve_right hnil
                          rw [overA_get (by omega)]
                          by_cases c1 : off ≤ k ∧ k < off + vv.cells.toList.length
                          · rw [if_pos ⟨by omega, by omega⟩, List.append_assoc, List.getElem?_append_right (by rw [List.length_take]; omega), List.length_take, Nat.min_eq_left (by omega), List.getElem?_append_left (by omega), show j * u.sz + k - (j * u.sz + off) = k - off by omega]
                          · rw [if_neg (by omega), q2 k hk]
                            by_cases c2 : k < off
                            · rw [List.append_assoc, List.getElem?_append_left (by rw [List.length_take]; omega), List.getElem?_take, if_pos c2]
                            · rw [List.getElem?_append_right (by rw [List.length_append, List.length_take]; omega), List.length_append, List.length_take, Nat.min_eq_left (by omega), List.getElem?_drop, show off + vv.cells.toList.length + (k - (off + vv.cells.toList.length)) = k by omega]
                  obtain ⟨us, hus, hrep, hcell⟩ := hcells
                  obtain ⟨v1, v2, hv12, hl1, hd, hr2⟩ := RepD.unflat u cs' x [] us hx hrep
                  rw [show v2 = [] from hr2, List.append_nil] at hv12
                  subst hv12
                  refine ⟨us, hus, hcell, ?_⟩
                  simpa using hd
                · obtain ⟨ds, d1, d2, d3⟩ := k4 j hj
                  refine ⟨ds, d1, fun k hk => ?_, ?_⟩
                  · rw [← d2 k hk]
                    split
                    · rfl
                    · rename_i hnil
                      have ho : off + vv.cells.toList.length ≤ u.sz := hoff.resolve_right hnil
                      rw [overA_get (by omega)]
                      rcases Nat.lt_or_ge j i with hlt | hge
                      · have hb : j * u.sz + u.sz ≤ i * u.sz := by
                          have : (j + 1) * u.sz ≤ i * u.sz := Nat.mul_le_mul_right _ hlt
                          rwa [Nat.succ_mul] at this
                        rw [if_neg (by omega)]
                      · have hb : i * u.sz + u.sz ≤ j * u.sz := by
                          have : (i + 1) * u.sz ≤ j * u.sz := Nat.mul_le_mul_right _ (by omega)
                          rwa [Nat.succ_mul] at this
                        rw [if_neg (by omega)]
                  · have : (l.set i x)[j]'(by simpa using hj) = l[j] := by simp [List.getElem_set, Ne.symm hji]
                    rw [this]
                    exact RepD.mono e'.keep _ _ _ d3
            · exact h.elim
end
end Go.Sx
set_option linter.unusedSimpArgs false
set_option linter.unusedVariables false
namespace Go.Sx
open Go.RowKit
section
variable {P : Program} {E : Env} {α : Type} {L : α → Prop}

/-- What a value says stays what it says: the plain yield of an operation that leaves the world alone. -/
abbrev Plainly (P : Program) (m : Mem) (v : SV) (s : Sem Value) (w0 : World) (R0 : Nat → Prop) (ρ : Rho) (w : World) : Prop :=
  ∃ u, s.run P w = .ok u w ∧ Rep (RO w0 R0 ρ w m) ρ m.next w v u

theorem addOff_rep {R : Nat → Prop} {ρ : Rho} {n : Nat} {w : World} {a v : SV} {av : Value} {k : Nat} (h : addOff a k = some v) (ha : Rep R ρ n w a av) :
    ∃ b o, av = .pointer (some ⟨b, o, none⟩) ∧ Rep R ρ n w v (.pointer (some ⟨b, o + k, none⟩)) := by
  cases a <;> simp only [addOff, Option.some.injEq] at h <;> try (cases h; done)
  case ptr id off =>
    subst h
    exact ⟨_, _, ha.2, ha.1, rfl⟩
  case eptr t l i off =>
    subst h
    obtain ⟨b, o, h1, h2, h3⟩ := ha
    exact ⟨_, _, h1, b, o, by rw [Nat.add_assoc, Nat.add_assoc], h2, h3⟩
  case rptr id sz i off =>
    subst h
    exact ⟨_, _, ha.2, ha.1, by rw [Nat.add_assoc]⟩

theorem opFieldAddr_sound (hE : EOK P E) {s : TypeId} {a : SV} {f : Nat} {p : Plan} {m : Mem} {κ : Kont α} (h : (opFieldAddr E s a f p m κ).holds L) :
    ∃ v, (κ v p m).holds L ∧ ∀ (m : Mem) w0 R0 ρ w (av : Value), Rep (RO w0 R0 ρ w m) ρ m.next w a av → Plainly P m v (Instr.fieldAt s av f) w0 R0 ρ w := by
  unfold opFieldAddr at h
  split at h
  · rename_i fs sz by_ ze ty eg he hrow
    have hok := hE.row _ _ hrow
    split at h
    · rename_i fd hfd
      split at h
      · rename_i r hr
        have hok' := hE.row _ _ hr
        split at h
        · exact h.elim
        · rename_i k hk
          split at h
          · rename_i v hv
            rw [frc_eq] at h
            refine ⟨v, h, fun m w0 R0 ρ w av ha => ?_⟩
            obtain ⟨b, o, rfl, h2⟩ := addOff_rep hv ha
            refine ⟨_, ?_, h2⟩
            have hu : P.underlying s = some (.struct fs) := hok.und
            have hsz : ¬ r.size = 0 := by omega
            simp only [Instr.fieldAt, Sem.run_bind, run_underlying hu, Result.andThen_ok, hfd, Instr.sureAddr, Sem.run_pure, fieldPlace, run_sizeOf' hok', hsz, if_false, Addr.add_lit, Sem.run_ite]
          · exact h.elim
      · exact h.elim
    · exact h.elim
  · exact h.elim

theorem run_partOf {t : TypeId} {r : Row} (hr : RowOK P t r) {R : Nat → Prop} {ρ : Rho} {n : Nat} {w : World} {cs : List SV} {vs : List Value} {off : Nat} {v : SV} (hc : RepL R ρ n w cs vs) (hv : loaded r cs off = some v) :
    ∃ u, (Go.part t ⟨vs⟩ off).run P w = .ok u w ∧ Rep R ρ n w v u := by
  unfold loaded at hv
  simp only [Go.part, Sem.run_bind, run_isAgg hr, Result.andThen_ok]
  cases ha : r.isAgg with
  | true =>
    rw [ha] at hv
    dsimp only at hv
    split at hv
    · rename_i hk
      injection hv with hv
      refine ⟨.agg ⟨(vs.drop off).take r.size⟩, ?_, by rw [← hv]; exact ⟨_, rfl, (hc.drop off).take _⟩⟩
      simp only [if_true, Sem.run_bind, run_sizeOf' hr, Result.andThen_ok, Sem.run_pure, Result.ok.injEq, and_true, Value.agg.injEq]
      apply Array.ext'
      simp [Array.toList_extract, List.extract_eq_take_drop]
    · cases hv
  | false =>
    rw [ha] at hv
    dsimp only at hv
    obtain ⟨u, h3, h4⟩ := hc.get hv
    refine ⟨u, ?_, h4⟩
    simp [h3]

theorem opField_sound (hE : EOK P E) {s : TypeId} {x : SV} {f : Nat} {p : Plan} {m : Mem} {κ : Kont α} (h : (opField E s x f p m κ).holds L) :
    ∃ v, (κ v p m).holds L ∧ ∀ (m : Mem) w0 R0 ρ w (xv : Value), Rep (RO w0 R0 ρ w m) ρ m.next w x xv → Plainly P m v (Instr.field s xv f) w0 R0 ρ w := by
  unfold opField at h
  split at h
  · rename_i fs sz by_ ze ty eg he hrow
    have hok := hE.row _ _ hrow
    split at h
    · rename_i fd cs hfd
      unfold partOf at h
      split at h
      · rename_i r hr
        have hok' := hE.row _ _ hr
        obtain ⟨v, h1, h2⟩ := loadCells_holds h
        refine ⟨v, h2, fun m w0 R0 ρ w xv hx => ?_⟩
        obtain ⟨vs, rfl, hvs⟩ := hx
        obtain ⟨u, h3, h4⟩ := run_partOf hok' hvs h1
        refine ⟨u, ?_, h4⟩
        have hu : P.underlying s = some (.struct fs) := hok.und
        simp only [Instr.field, Sem.run_bind, run_underlying hu, Result.andThen_ok, hfd, asAgg, Sem.run_pure, h3]
      · exact h.elim
    · exact h.elim
  · exact h.elim

theorem opIndexAddr_sound (hE : EOK P E) {t : TypeId} {x ix : SV} {p : Plan} {m : Mem} {κ : Kont α} (h : (opIndexAddr E t x ix p m κ).holds L) :
    ∃ v, (κ v p m).holds L ∧ ∀ m2, Shape m m2 → ∀ w0 R0 ρ w (xv iv : Value), MRel w0 R0 ρ w m2 → Rep (RO w0 R0 ρ w m2) ρ m2.next w x xv → Rep (RO w0 R0 ρ w m2) ρ m2.next w ix iv → Plainly P m2 v (Instr.indexAt t xv iv) w0 R0 ρ w := by
  unfold opIndexAddr at h
  split at h
  · rename_i k i
    split at h
    · -- a slice
      rename_i e sz by_ ze ty eg he hrow
      have hok := hE.row _ _ hrow
      have hu : P.underlying t = some (.slice e) := hok.und
      split at h
      · rename_i u l
        split at h
        · rename_i r hr
          have hok' := hE.row _ _ hr
          split at h
          · rename_i hs
            obtain ⟨hb, h⟩ := h
            simp only [Bool.and_eq_true, decide_eq_true_eq] at hb
            have hs' : r.size = u.sz := by simpa using hs
            refine ⟨_, h, fun m2 hsh w0 R0 ρ w xv iv hm hx hi => ?_⟩
            rw [show iv = _ from hi]
            obtain ⟨a, cap, hxv, hc, hel⟩ := hx
            injection hxv with hxv
            subst hxv
            obtain ⟨b, o, rfl, hR, hall⟩ := hel (by omega)
            refine ⟨.pointer (some ⟨b, o + i.toNat * u.sz, none⟩), ?_, b, o, by simp, by omega, hR, hall⟩
            simp only [Instr.indexAt, asIntOf, Sem.run_bind, run_underlying hu, Result.andThen_ok, Sem.run_pure, hb.1, hb.2, and_self, if_true, run_sizeOf' hok', hs', Addr.add_lit, Sem.run_ite]
          · exact h.elim
        · exact h.elim
      · rename_i id
        split at h
        · rename_i u l hg
          split at h
          · rename_i r hr
            have hok' := hE.row _ _ hr
            split at h
            · rename_i hs
              obtain ⟨hb, h⟩ := h
              simp only [Bool.and_eq_true, decide_eq_true_eq] at hb
              have hs' : r.size = u.sz := by simpa using hs
              refine ⟨_, h, fun m2 hsh w0 R0 ρ w xv iv hm hx hi => ?_⟩
              rw [show iv = _ from hi]
              obtain ⟨hid, a, rfl, ha⟩ := hx
              obtain ⟨B', hg2, hl⟩ := hsh id _ hg
              cases B' <;> try exact hl.elim
              rename_i u2 l2
              obtain ⟨rfl, hll⟩ := hl
              obtain ⟨b1, b2, _⟩ := hm.box id _ hg2
              rw [← hll] at b1
              obtain rfl := ha (by omega)
              refine ⟨.pointer (some ⟨(ρ id).1, 0 + i.toNat * u.sz, none⟩), ?_, hid, by simp⟩
              have hb2 : i < ((ρ id).2.1 : Int) := by rw [← b1]; exact hb.2
              simp only [Instr.indexAt, asIntOf, Sem.run_bind, run_underlying hu, Result.andThen_ok, Sem.run_pure, hb.1, hb2, and_self, if_true, run_sizeOf' hok', hs', Addr.add_lit, Sem.run_ite]
            · exact h.elim
          · exact h.elim
        · exact h.elim
      · rename_i id off n
        split at h
        · rename_i r hr
          have hok' := hE.row _ _ hr
          obtain ⟨hb, h⟩ := h
          simp only [Bool.and_eq_true, decide_eq_true_eq] at hb
          refine ⟨_, h, fun m2 hsh w0 R0 ρ w xv iv hm hx hi => ?_⟩
          rw [show iv = _ from hi]
          obtain ⟨hid, rfl⟩ := hx
          refine ⟨.pointer (some ⟨(ρ id).1, off + i.toNat * r.size, none⟩), ?_, hid, rfl⟩
          simp only [Instr.indexAt, asIntOf, Sem.run_bind, run_underlying hu, Result.andThen_ok, Sem.run_pure, hb.1, hb.2, and_self, if_true, run_sizeOf' hok', Addr.add_lit, Sem.run_ite]
        · exact h.elim
      · exact h.elim
    · -- an array
      rename_i n e sz by_ ze ty eg he hrow
      have hok := hE.row _ _ hrow
      have hu : P.underlying t = some (.array n e) := hok.und
      split at h
      · rename_i r hr
        have hok' := hE.row _ _ hr
        split at h
        · rename_i v hv
          obtain ⟨hb, h⟩ := h
          simp only [Bool.and_eq_true, decide_eq_true_eq] at hb
          refine ⟨_, h, fun m2 hsh w0 R0 ρ w xv iv hm hx hi => ?_⟩
          rw [show iv = _ from hi]
          obtain ⟨b, o, rfl, h2⟩ := addOff_rep hv hx
          refine ⟨_, ?_, h2⟩
          simp only [Instr.indexAt, asIntOf, Sem.run_bind, run_underlying hu, Result.andThen_ok, Sem.run_pure, Instr.sureAddr, hb.1, hb.2, and_self, if_true, run_sizeOf' hok', Addr.add_lit, Sem.run_ite]
        · exact h.elim
      · exact h.elim
    · exact h.elim
  · exact h.elim

theorem opIndex_sound (hE : EOK P E) {t : TypeId} {x ix : SV} {p : Plan} {m : Mem} {κ : Kont α} (h : (opIndex E t x ix p m κ).holds L) :
    ∃ v, (κ v p m).holds L ∧ ∀ (m : Mem) w0 R0 ρ w (xv iv : Value), Rep (RO w0 R0 ρ w m) ρ m.next w x xv → Rep (RO w0 R0 ρ w m) ρ m.next w ix iv → Plainly P m v (Instr.index t xv iv) w0 R0 ρ w := by
  unfold opIndex at h
  split at h
  · rename_i k i
    split at h
    · rename_i sz by_ ze ty eg he hrow
      have hok := hE.row _ _ hrow
      have hu : P.underlying t = some .string := hok.und
      split at h
      · rename_i s
        obtain ⟨hb, h⟩ := h
        simp only [Bool.and_eq_true, decide_eq_true_eq] at hb
        refine ⟨_, h, fun m w0 R0 ρ w xv iv hx hi => ?_⟩
        rw [show iv = _ from hi, show xv = _ from hx]
        refine ⟨_, ?_, rfl⟩
        have hlt : i.toNat < s.length := by omega
        have hg : (⟨⟨s⟩⟩ : ByteArray)[i.toNat]? = some (s[i.toNat]'hlt) := by
          have : i.toNat < (⟨⟨s⟩⟩ : ByteArray).size := by simpa [ByteArray.size] using hlt
          rw [getElem?_pos (⟨⟨s⟩⟩ : ByteArray) i.toNat this]
          rfl
        simp only [Instr.index, asIntOf, Sem.run_bind, run_underlying hu, Result.andThen_ok, Sem.run_pure, hb.1, if_true, hg]
        simp [hlt]
      · exact h.elim
    · rename_i n e sz by_ ze ty eg he hrow
      have hok := hE.row _ _ hrow
      have hu : P.underlying t = some (.array n e) := hok.und
      split at h
      · rename_i cs
        split at h
        · rename_i r hr
          have hok' := hE.row _ _ hr
          obtain ⟨hb, h⟩ := h
          simp only [Bool.and_eq_true, decide_eq_true_eq] at hb
          obtain ⟨v, h1, h2⟩ := loadCells_holds h
          refine ⟨v, h2, fun m w0 R0 ρ w xv iv hx hi => ?_⟩
          rw [show iv = _ from hi]
          obtain ⟨vs, rfl, hvs⟩ := hx
          obtain ⟨u, h3, h4⟩ := run_partOf hok' hvs h1
          refine ⟨u, ?_, h4⟩
          simp only [Instr.index, asIntOf, Sem.run_bind, run_underlying hu, Result.andThen_ok, Sem.run_pure, hb.1, hb.2, and_self, if_true, run_sizeOf' hok', h3, Sem.run_ite]
        · exact h.elim
      · exact h.elim
    · exact h.elim
  · exact h.elim

/-! ### Equality -/

theorem eqPart_loaded {t : TypeId} {cs : List SV} {off : Nat} {v : SV} (h : eqIn.part E t cs off = some v) : ∃ r, E.row t = some r ∧ loaded r cs off = some v := by
  unfold eqIn.part at h
  split at h
  · rename_i r hr
    refine ⟨r, hr, ?_⟩
    unfold loaded
    split at h
    · rename_i ha
      rw [ha]
      dsimp only
      split at h
      · rename_i hk; rw [if_pos (.inr hk)]; exact h
      · cases h
    · rename_i ha
      rw [show r.isAgg = false by simpa using ha]
      dsimp only
      rw [nth_eq] at h; exact h
  · cases h

theorem list_forIn_eq {β σ : Type} (xs : Array β) (init : σ) (f : β → σ → Sem (ForInStep σ)) : forIn xs init f = forIn xs.toList init f := by
  simp

theorem eqIn_sound (hE : EOK P E) : ∀ (d : Nat) (t : TypeId) (x y : SV) (b : Bool), eqIn E d t x y = some b → ∀ (D : Nat), d ≤ D → ∀ {R : Nat → Prop} {ρ : Rho} {n : Nat} {w : World} {xv yv : Value}, Rep R ρ n w x xv → Rep R ρ n w y yv →
    (Op.equalIn D t xv yv).run P w = .ok b w := by
  intro d
  induction d with
  | zero => intro t x y b h; unfold eqIn at h; cases h
  | succ d ih =>
    intro t x y b h D hD
    obtain ⟨D, rfl⟩ : ∃ D', D = D' + 1 := ⟨D - 1, by omega⟩
    have hdD : d ≤ D := by omega
    intro R ρ n w xv yv hx hy
    unfold eqIn at h
    split at h
    · rename_i sz by_ ze ty eg he hrow
      have hu := (hE.row _ _ hrow).und
      dsimp only at hu
      split at h
      · rename_i a b'
        injection h with h
        rw [show xv = _ from hx, show yv = _ from hy]
        simp only [Op.equalIn, Sem.run_bind, run_underlying hu, Result.andThen_ok, Sem.run_pure, h]
      · cases h
    · rename_i k sz by_ ze ty eg he hrow
      have hu := (hE.row _ _ hrow).und
      dsimp only at hu
      split at h
      · rename_i k1 a k2 b'
        split at h
        · rename_i hk
          injection h with h
          subst hk
          rw [show xv = _ from hx, show yv = _ from hy]
          simp only [Op.equalIn, Sem.run_bind, run_underlying hu, Result.andThen_ok, Sem.run_pure, h, if_true]
        · cases h
      · cases h
    · rename_i sz by_ ze ty eg he hrow
      have hu := (hE.row _ _ hrow).und
      dsimp only at hu
      split at h
      · rename_i a b'
        injection h with h
        rw [show xv = _ from hx, show yv = _ from hy]
        rw [run_equalIn_string w D t _ _ hu, ← h, ByteArray.toList_eq, ByteArray.toList_eq]
      · cases h
    · rename_i fs sz by_ ze ty eg hrow
      have hok := hE.row _ _ hrow
      have hu : P.underlying t = some (.struct fs) := hok.und
      have hheld : P.stoodInHeld t = false := hok.held.symm
      split at h
      · rename_i xs ys
        obtain ⟨vx, rfl, hvx⟩ := hx
        obtain ⟨vy, rfl, hvy⟩ := hy
        have hfs : P.fieldsOf t = fs := by simp [Program.fieldsOf, hu]
        rw [run_equalIn_struct w D t ⟨vx⟩ ⟨vy⟩ (by rw [hfs]; exact hu) hheld, hfs]
        clear hu hrow hok hfs
        generalize fs.toList = l at h
        clear fs
        induction l generalizing b with
        | nil => simp only [eqIn.go] at h; injection h with h; rw [← h]; rfl
        | cons f l ihl =>
          simp only [eqIn.go] at h
          split at h
          · rename_i a b' ha hb
            split at h
            · rename_i u v hu hv
              split at h
              · cases h
              · rename_i hn
                injection h with h
                obtain ⟨r1, hr1, hl1⟩ := eqPart_loaded ha
                obtain ⟨r2, hr2, hl2⟩ := eqPart_loaded hb
                obtain ⟨p1, hp1, hq1⟩ := run_partOf (P := P) (hE.row _ _ hr1) hvx hl1
                obtain ⟨p2, hp2, hq2⟩ := run_partOf (P := P) (hE.row _ _ hr2) hvy hl2
                have he := ih _ _ _ _ hu D hdD hq1 hq2
                simp only [Op.eqFields, hn, ne_eq, not_false_eq_true, if_true, Sem.run_bind, hp1, hp2, Result.andThen_ok, he]
                cases u with
                | false => rw [← h]; rfl
                | true =>
                  simp only [Bool.not_true, Bool.false_eq_true, if_false]
                  rw [Bool.true_and] at h
                  subst h
                  exact ihl _ hv
            · cases h
          · cases h
      · cases h
    · rename_i n0 e sz by_ ze ty eg he hrow
      have hok := hE.row _ _ hrow
      have hu : P.underlying t = some (.array n0 e) := hok.und
      split at h
      · rename_i xs ys r hr
        have hok' := hE.row _ _ hr
        obtain ⟨vx, rfl, hvx⟩ := hx
        obtain ⟨vy, rfl, hvy⟩ := hy
        simp only [Op.equalIn, Sem.run_bind, run_underlying hu, Result.andThen_ok, run_sizeOf' hok', Std.Legacy.Range.forIn_eq_forIn_range', Std.Legacy.Range.size, Nat.sub_zero, Nat.add_sub_cancel, Nat.div_one]
        clear hu hrow hok
        have key : ∀ (k i : Nat) (b : Bool), eqIn.goN E (eqIn E d) e r xs ys k i = some b →
            ((forIn (List.range' i k 1) ((none, ()) : Option Bool × Unit) fun i _ => do
              if (!(← Op.equalIn D e (← Go.part e ⟨vx⟩ (i * r.size)) (← Go.part e ⟨vy⟩ (i * r.size)))) = true then pure (ForInStep.done (some false, ())) else pure (ForInStep.yield (none, ()))) : Sem _).run P w
              = .ok (if b then (none, ()) else (some false, ())) w := by
          intro k
          induction k with
          | zero => intro i b hb; unfold eqIn.goN at hb; injection hb with hb; subst hb; rfl
          | succ k ihk =>
            intro i b hb
            unfold eqIn.goN at hb
            split at hb
            · rename_i a b' ha hb'
              split at hb
              · rename_i u v hu hv
                injection hb with hb
                obtain ⟨r1, hr1, hl1⟩ := eqPart_loaded ha
                obtain ⟨r2, hr2, hl2⟩ := eqPart_loaded hb'
                obtain ⟨p1, hp1, hq1⟩ := run_partOf (P := P) (hE.row _ _ hr1) hvx hl1
                obtain ⟨p2, hp2, hq2⟩ := run_partOf (P := P) (hE.row _ _ hr2) hvy hl2
                have he := ih _ _ _ _ hu D hdD hq1 hq2
                simp only [List.range'_succ, List.forIn_cons, Sem.run_bind, hp1, hp2, Result.andThen_ok, he]
                cases u with
                | false => rw [← hb]; rfl
                | true =>
                  simp only [Bool.not_true, Bool.false_eq_true, if_false, Sem.run_pure, Result.andThen_ok]
                  rw [Bool.true_and] at hb
                  subst hb
                  exact ihk (i + 1) _ hv
              · cases hb
            · cases hb
        have hk := key n0 0 b h
        rw [hk]
        cases b <;> rfl
      · cases h
    · cases h
end
end Go.Sx
set_option linter.unusedSimpArgs false
set_option linter.unusedVariables false
namespace Go.Sx
open Go.RowKit
section
variable {P : Program} {E : Env} {α : Type} {L : α → Prop}

theorem intOp_run {op : BinOp} {k : IntKind} {a b : Int} {v : SV} (h : intOp op k a b = some v) (t : TypeId) (w : World) : ∃ u, (Go.binOp op t (.int k a) (.int k b)).run P w = .ok u w ∧ ∀ R ρ n, Rep R ρ n w v u := by
  cases op <;> simp only [intOp, Option.some.injEq] at h <;> first
    | (cases h; done)
    | (subst h; exact ⟨_, by simp [Go.binOp, Op.intArith, Op.intBits, Op.intCmp], fun _ _ _ => rfl⟩)

theorem toList_mk' (l : List UInt8) : (ByteArray.mk ⟨l⟩).toList = l := ByteArray.toList_eq _

theorem strOp_run {op : BinOp} {a b : List UInt8} {v : SV} (h : strOp op a b = some v) (t : TypeId) (w : World) : ∃ u, (Go.binOp op t (.string ⟨⟨a⟩⟩) (.string ⟨⟨b⟩⟩)).run P w = .ok u w ∧ ∀ R ρ n, Rep R ρ n w v u := by
  cases op <;> simp only [strOp, Option.some.injEq] at h <;> first
    | (cases h; done)
    | (subst h; exact ⟨_, by simp [Go.binOp, Op.stringOp, toList_mk'], fun _ _ _ => rfl⟩)

theorem eqIn_shape {d : Nat} {t : TypeId} {x y : SV} {b : Bool} (h : eqIn E d t x y = some b) : (∃ k a k' c, x = .int k a ∧ y = .int k' c) ∨ (∃ a c, x = .str a ∧ y = .str c) ∨ (∃ a c, x = .bool a ∧ y = .bool c) ∨ (∃ a c, x = .agg a ∧ y = .agg c) := by
  cases d with
  | zero => unfold eqIn at h; cases h
  | succ d =>
    unfold eqIn at h
    split at h
    · split at h
      · exact .inr (.inr (.inl ⟨_, _, rfl, rfl⟩))
      · cases h
    · split at h
      · exact .inl ⟨_, _, _, _, rfl, rfl⟩
      · cases h
    · split at h
      · exact .inr (.inl ⟨_, _, rfl, rfl⟩)
      · cases h
    · split at h
      · exact .inr (.inr (.inr ⟨_, _, rfl, rfl⟩))
      · cases h
    · split at h
      · exact .inr (.inr (.inr ⟨_, _, rfl, rfl⟩))
      · cases h
    · cases h

theorem run_equal_nil {t e : TypeId} (hu : P.underlying t = some (.slice e)) (a : Option Addr) (l c l' c' : Nat) (w : World) : (Op.equal t (.slice a l c) (.slice none l' c')).run P w = .ok a.isNone w := by
  have key : ∀ d, (Op.equalIn (d + 1) t (.slice a l c) (.slice none l' c')).run P w = .ok a.isNone w := fun d => by
    simp only [Op.equalIn, Sem.run_bind, run_underlying hu, Result.andThen_ok]
    cases a <;> rfl
  exact key 9999

theorem opBin_sound (hE : EOK P E) {op : BinOp} {t : TypeId} {x y : SV} {p : Plan} {m : Mem} {κ : Kont α} (h : (opBin E op t x y p m κ).holds L) :
    ∃ v, (κ v p m).holds L ∧ ∀ (m : Mem) w0 R0 ρ w (xv yv : Value) (xo yo : Operand), Rep (RO w0 R0 ρ w m) ρ m.next w x xv → Rep (RO w0 R0 ρ w m) ρ m.next w y yv → Plainly P m v (do eqGuard op t xo yo xv yv; Go.binOp op t xv yv) w0 R0 ρ w := by
  unfold opBin at h
  split at h
  · rename_i k a k' b
    split at h
    · obtain ⟨hb, h⟩ := h
      refine ⟨_, h, fun m w0 R0 ρ w xv yv xo yo hx hy => ?_⟩
      rw [show xv = _ from hx, show yv = _ from hy]
      have hb' : ¬ b < 0 := by have := of_decide_eq_true hb; omega
      exact ⟨_, by simp [eqGuard_at_int, Go.binOp, Op.shift, hb'], rfl⟩
    · obtain ⟨hb, h⟩ := h
      refine ⟨_, h, fun m w0 R0 ρ w xv yv xo yo hx hy => ?_⟩
      rw [show xv = _ from hx, show yv = _ from hy]
      have hb' : ¬ b < 0 := by have := of_decide_eq_true hb; omega
      exact ⟨_, by simp [eqGuard_at_int, Go.binOp, Op.shift, hb'], rfl⟩
    · split at h
      · rename_i hk
        subst hk
        split at h
        · obtain ⟨hb, h⟩ := h
          refine ⟨_, h, fun m w0 R0 ρ w xv yv xo yo hx hy => ?_⟩
          rw [show xv = _ from hx, show yv = _ from hy]
          have hb' : ¬ b = 0 := by simpa using hb
          exact ⟨_, by simp [eqGuard_at_int, Go.binOp, Op.intDiv, hb'], rfl⟩
        · obtain ⟨hb, h⟩ := h
          refine ⟨_, h, fun m w0 R0 ρ w xv yv xo yo hx hy => ?_⟩
          rw [show xv = _ from hx, show yv = _ from hy]
          have hb' : ¬ b = 0 := by simpa using hb
          exact ⟨_, by simp [eqGuard_at_int, Go.binOp, Op.intDiv, hb'], rfl⟩
        · split at h
          · rename_i v hv
            refine ⟨v, h, fun m w0 R0 ρ w xv yv xo yo hx hy => ?_⟩
            rw [show xv = _ from hx, show yv = _ from hy]
            obtain ⟨u, h1, h2⟩ := intOp_run (P := P) hv t w
            exact ⟨u, by simp only [eqGuard_at_int, pure_bind, h1], h2 _ _ _⟩
          · exact h.elim
      · exact h.elim
  · rename_i a b
    split at h
    · obtain ⟨hb, h⟩ := h
      refine ⟨_, h, fun m w0 R0 ρ w xv yv xo yo hx hy => ?_⟩
      rw [show xv = _ from hx, show yv = _ from hy]
      have hb' : ¬ (9223372036854775807 : Int) < ((a.length + b.length : Nat) : Int) := by have := of_decide_eq_true hb; omega
      refine ⟨.string ⟨⟨a ++ b⟩⟩, ?_, rfl⟩
      simp only [eqGuard_at_string, pure_bind, Go.binOp, Op.stringOp]
      have hs : ∀ l : List UInt8, (ByteArray.mk ⟨l⟩).size = l.length := fun l => rfl
      rw [hs, hs, if_neg (by rw [IntKind.max_i64]; exact hb')]
      simp only [Sem.run_pure, Result.ok.injEq, and_true, Value.string.injEq]
      apply ByteArray.ext
      simp
    · split at h
      · rename_i v hv
        refine ⟨v, h, fun m w0 R0 ρ w xv yv xo yo hx hy => ?_⟩
        rw [show xv = _ from hx, show yv = _ from hy]
        obtain ⟨u, h1, h2⟩ := strOp_run (P := P) hv t w
        exact ⟨u, by simp only [eqGuard_at_string, pure_bind, h1], h2 _ _ _⟩
      · exact h.elim
  · rename_i hni hns
    have key : ∀ (b : Bool) (op : BinOp), (op = .eql ∨ op = .neq) → (∃ r, E.row t = some r ∧ r.eqg = false) → eqIn E 100 t x y = some b → ∀ (m : Mem) w0 R0 ρ w (xv yv : Value) (xo yo : Operand), Rep (RO w0 R0 ρ w m) ρ m.next w x xv → Rep (RO w0 R0 ρ w m) ρ m.next w y yv →
        (do eqGuard op t xo yo xv yv; Go.binOp op t xv yv).run P w = .ok (.bool (if op = .eql then b else !b)) w := by
      intro b op hop ⟨r, hr, hg⟩ he m w0 R0 ρ w xv yv xo yo hx hy
      have hok := hE.row _ _ hr
      have hq := eqIn_sound (P := P) hE 100 t x y b he 10000 (by omega) hx hy
      rcases eqIn_shape he with ⟨k, a, k', c, rfl, rfl⟩ | ⟨a, c, rfl, rfl⟩ | ⟨a, c, rfl, rfl⟩ | ⟨a, c, rfl, rfl⟩
      · exact (hni _ _ _ _ rfl rfl).elim
      · exact (hns _ _ rfl rfl).elim
      · rw [show xv = _ from hx, show yv = _ from hy] at hq ⊢
        rcases hop with rfl | rfl
        · simp [eqGuard_at_bool, Go.binOp, Op.equal, Op.maxDepth, hq]
        · simp [eqGuard_at_bool, Go.binOp, Op.equal, Op.maxDepth, hq]
      · obtain ⟨vx, rfl, _⟩ := hx
        obtain ⟨vy, rfl, _⟩ := hy
        have hm : P.eqGuardType P.depth t = false := by rw [← hok.eqg]; exact hg
        rcases hop with rfl | rfl
        · simp only [Sem.run_bind, run_eqGuard_agg w _ t xo yo _ _ hm, Result.andThen_ok, run_eql_struct, hq]; rfl
        · simp only [Sem.run_bind, run_eqGuard_agg w _ t xo yo _ _ hm, Result.andThen_ok, run_neq_struct, hq]; rfl
    split at h
    · rename_i rb hnt
      split at h <;> try exact h.elim
      rename_i e sz by_ ze ty eg he hrow
      have hok := hE.row _ _ hrow
      have hu : P.underlying t = some (.slice e) := hok.und
      have kn : rb.1 = true → ∀ (m : Mem) w0 R0 ρ w (xv yv : Value) (xo yo : Operand), Rep (RO w0 R0 ρ w m) ρ m.next w x xv → Rep (RO w0 R0 ρ w m) ρ m.next w y yv → (∃ a l c l' c', xv = .slice a l c ∧ yv = .slice none l' c') ∧ (Op.equal t xv yv).run P w = .ok rb.2 w := by
        intro hr m w0 R0 ρ w xv yv xo yo hx hy
        unfold nilTest at hnt
        split at hnt
        · injection hnt with hnt; subst hnt
          rw [show xv = _ from hx, show yv = _ from hy]
          exact ⟨⟨_, _, _, _, _, rfl, rfl⟩, run_equal_nil hu _ _ _ _ _ w⟩
        · rename_i u l
          injection hnt with hnt; subst hnt
          obtain ⟨a, cap, hxv, _, hel⟩ := hx
          injection hxv with hxv
          rw [hxv, show yv = _ from hy]
          have hne : 0 < List.length l := by
            cases l with
            | nil => cases hr
            | cons _ _ => simp
          obtain ⟨b, o, rfl, _⟩ := hel hne
          exact ⟨⟨_, _, _, _, _, rfl, rfl⟩, run_equal_nil hu _ _ _ _ _ w⟩
        · injection hnt with hnt; subst hnt
          rw [show xv = _ from hx.2, show yv = _ from hy]
          exact ⟨⟨_, _, _, _, _, rfl, rfl⟩, run_equal_nil hu _ _ _ _ _ w⟩
        · split at hnt
          · injection hnt with hnt; subst hnt
            rw [show xv = _ from hx, show yv = _ from hy]
            exact ⟨⟨_, _, _, _, _, rfl, rfl⟩, run_equal_nil hu _ _ _ _ _ w⟩
          · injection hnt with hnt; subst hnt
            rw [show xv = _ from hx, show yv = _ from hy]
            exact ⟨⟨_, _, _, _, _, rfl, rfl⟩, run_equal_nil hu _ _ _ _ _ w⟩
          · cases hnt
        · cases hnt
      split at h <;> try exact h.elim
      · obtain ⟨hr, h⟩ := h
        refine ⟨_, h, fun m w0 R0 ρ w xv yv xo yo hx hy => ?_⟩
        obtain ⟨⟨a, l, c, l', c', rfl, rfl⟩, h2⟩ := kn hr m w0 R0 ρ w xv yv xo yo hx hy
        exact ⟨_, by simp only [eqGuard, Go.binOp, Sem.run_bind, Sem.run_pure, Result.andThen_ok, h2, pure_bind, Bool.not_true, Bool.false_eq_true, if_false], rfl⟩
      · obtain ⟨hr, h⟩ := h
        refine ⟨_, h, fun m w0 R0 ρ w xv yv xo yo hx hy => ?_⟩
        obtain ⟨⟨a, l, c, l', c', rfl, rfl⟩, h2⟩ := kn hr m w0 R0 ρ w xv yv xo yo hx hy
        exact ⟨_, by simp only [eqGuard, Go.binOp, Sem.run_bind, Sem.run_pure, Result.andThen_ok, h2, pure_bind, Bool.not_true, Bool.false_eq_true, if_false], rfl⟩
    split at h
    · rename_i de sz by_ ze ty he hrow
      split at h
      · split at h
        · rename_i b hb
          exact ⟨_, h, fun m w0 R0 ρ w xv yv xo yo hx hy => ⟨_, key b .eql (.inl rfl) ⟨_, hrow, rfl⟩ hb m w0 R0 ρ w xv yv xo yo hx hy, rfl⟩⟩
        · exact h.elim
      · split at h
        · rename_i b hb
          exact ⟨_, h, fun m w0 R0 ρ w xv yv xo yo hx hy => ⟨_, key b .neq (.inr rfl) ⟨_, hrow, rfl⟩ hb m w0 R0 ρ w xv yv xo yo hx hy, rfl⟩⟩
        · exact h.elim
      · exact h.elim
    · exact h.elim

theorem opUn_sound {op : UnOp} {x : SV} {p : Plan} {m : Mem} {κ : Kont α} (h : (opUn op x p m κ).holds L) :
    ∃ v, (κ v p m).holds L ∧ ∀ (m : Mem) w0 R0 ρ w (xv : Value), Rep (RO w0 R0 ρ w m) ρ m.next w x xv → Plainly P m v (Op.unary op xv) w0 R0 ρ w := by
  unfold opUn at h
  split at h
  · exact ⟨_, h, fun m w0 R0 ρ w xv hx => by rw [show xv = _ from hx]; exact ⟨_, rfl, rfl⟩⟩
  · exact ⟨_, h, fun m w0 R0 ρ w xv hx => by rw [show xv = _ from hx]; exact ⟨_, rfl, rfl⟩⟩
  · exact ⟨_, h, fun m w0 R0 ρ w xv hx => by rw [show xv = _ from hx]; exact ⟨_, rfl, rfl⟩⟩
  · exact h.elim

/-! ### Rows of data -/

def RepDL (R : Nat → Prop) (w : World) (t : Ty) : List t.T → List Value → Prop
  | [], vs => vs = []
  | x :: xs, vs => ∃ v1 v2, vs = v1 ++ v2 ∧ RepD R w t x v1 ∧ RepDL R w t xs v2

theorem RepDL.append {R : Nat → Prop} {w : World} {t : Ty} : ∀ {xs ys : List t.T} {us vs : List Value}, RepDL R w t xs us → RepDL R w t ys vs → RepDL R w t (xs ++ ys) (us ++ vs)
  | [], _, us, vs, h, k => by rw [show us = [] from h]; exact k
  | x :: xs, ys, us, vs, h, k => by
    obtain ⟨v1, v2, rfl, h1, h2⟩ := h
    exact ⟨v1, v2 ++ vs, by simp, h1, RepDL.append h2 k⟩
theorem RepDL.length {R : Nat → Prop} {w : World} {t : Ty} : ∀ {xs : List t.T} {us : List Value}, RepDL R w t xs us → us.length = xs.length * t.sz
  | [], us, h => by rw [show us = [] from h]; simp
  | x :: xs, us, h => by
    obtain ⟨v1, v2, rfl, h1, h2⟩ := h
    rw [List.length_append, (RepD.flat (ρ := fun _ => (0, 0, 0)) (n := 0) t x v1 h1).1, RepDL.length h2, List.length_cons, Nat.succ_mul, Nat.add_comm]
theorem RepDL.mono {R R' : Nat → Prop} {w w' : World} (hk : ∀ b, R b → R' b ∧ w'.heap[b]? = w.heap[b]?) {t : Ty} : ∀ {xs : List t.T} {us : List Value}, RepDL R w t xs us → RepDL R' w' t xs us
  | [], _, h => h
  | x :: xs, us, h => by
    obtain ⟨v1, v2, rfl, h1, h2⟩ := h
    exact ⟨v1, v2, rfl, RepD.mono hk t _ _ h1, RepDL.mono hk h2⟩

/-- Element by element. -/
def Elems (R : Nat → Prop) (w : World) (t : Ty) (l : List t.T) (g : Nat → Option Value) : Prop :=
  ∀ i (h : i < l.length), ∃ cs : List Value, cs.length = t.sz ∧ (∀ j, j < t.sz → g (i * t.sz + j) = cs[j]?) ∧ RepD R w t l[i] cs

theorem RepDL.elems {R : Nat → Prop} {w : World} {t : Ty} : ∀ {xs : List t.T} {us : List Value}, RepDL R w t xs us → Elems R w t xs fun k => us[k]?
  | [], _, _, i, hi => absurd hi (Nat.not_lt_zero _)
  | x :: xs, us, h, 0, hi => by
    obtain ⟨v1, v2, rfl, h1, h2⟩ := h
    have hl := (RepD.flat (ρ := fun _ => (0, 0, 0)) (n := 0) t x v1 h1).1
    exact ⟨v1, hl, fun j hj => by simp only [Nat.zero_mul, Nat.zero_add]; rw [List.getElem?_append_left (by omega)], h1⟩
  | x :: xs, us, h, i + 1, hi => by
    obtain ⟨v1, v2, rfl, h1, h2⟩ := h
    have hl := (RepD.flat (ρ := fun _ => (0, 0, 0)) (n := 0) t x v1 h1).1
    obtain ⟨cs, k1, k2, k3⟩ := RepDL.elems h2 i (by simpa using hi)
    refine ⟨cs, k1, fun j hj => ?_, by simpa using k3⟩
    rw [← k2 j hj]
    dsimp only
    rw [List.getElem?_append_right (by rw [Nat.succ_mul]; omega)]
    congr 1
    rw [Nat.succ_mul]; omega

theorem Elems.repDL {R : Nat → Prop} {w : World} {t : Ty} : ∀ {xs : List t.T} {us : List Value}, us.length = xs.length * t.sz → Elems R w t xs (fun k => us[k]?) → RepDL R w t xs us
  | [], us, hl, _ => List.eq_nil_of_length_eq_zero (by simpa using hl)
  | x :: xs, us, hl, h => by
    rw [List.length_cons, Nat.succ_mul] at hl
    obtain ⟨cs, k1, k2, k3⟩ := h 0 (by simp)
    have hcs : us.take t.sz = cs := by
      apply List.ext_getElem?
      intro j
      by_cases hj : j < t.sz
      · rw [List.getElem?_take, if_pos hj]
        have := k2 j hj
        simpa using this
      · rw [List.getElem?_take, if_neg hj, List.getElem?_eq_none (by omega)]
    refine ⟨us.take t.sz, us.drop t.sz, (List.take_append_drop _ _).symm, by rw [hcs]; exact k3, Elems.repDL (by rw [List.length_drop]; omega) fun i hi => ?_⟩
    obtain ⟨ds, d1, d2, d3⟩ := h (i + 1) (by simpa using hi)
    refine ⟨ds, d1, fun j hj => ?_, by simpa using d3⟩
    rw [← d2 j hj]
    dsimp only
    rw [List.getElem?_drop]
    congr 1
    rw [Nat.succ_mul]; omega

theorem unflatN_repDL {R : Nat → Prop} {ρ : Rho} {n : Nat} {w : World} {t : Ty} : ∀ {k : Nat} {cs : List SV} {l : List t.T} {vs : List Value}, unflatN t k cs = some l → RepL R ρ n w cs vs → RepDL R w t l vs ∧ l.length = k
  | 0, cs, l, vs, h, hr => by
    cases cs with
    | nil => simp only [unflatN] at h; injection h with h; subst h; exact ⟨hr, rfl⟩
    | cons c cs => simp [unflatN] at h
  | k + 1, cs, l, vs, h, hr => by
    simp only [unflatN] at h
    cases h1 : unflat t cs with
    | none => rw [h1] at h; cases h
    | some q =>
      obtain ⟨x, cs1⟩ := q
      rw [h1] at h
      dsimp only at h
      cases h2 : unflatN t k cs1 with
      | none => rw [h2] at h; cases h
      | some l' =>
        rw [h2] at h
        injection h with h
        subst h
        obtain ⟨v1, v2, rfl, _, r1, r2⟩ := RepD.unflat t cs x cs1 vs h1 hr
        obtain ⟨r3, r4⟩ := unflatN_repDL h2 r2
        exact ⟨⟨v1, v2, rfl, r1, r3⟩, by simp [r4]⟩

theorem bytes_repDL {R : Nat → Prop} {w : World} : ∀ (s : List UInt8), RepDL R w (.int .u8) (s.map fun b => (b.toNat : Int) : List Int) (s.map fun b => Value.int .u8 b.toNat)
  | [] => rfl
  | b :: s => ⟨[_], _, rfl, rfl, bytes_repDL s⟩

/-- A box of rows: what its block begins with. -/
theorem rows_repDL {w0 : World} {R0 : Nat → Prop} {ρ : Rho} {w : World} {m : Mem} (hm : MRel w0 R0 ρ w m) {id : Nat} {u : Ty} {l : List u.T} (h : m.get id = some (.rows u l)) (hc : 0 < (ρ id).2.2) :
    ∃ arr e fr, w.heap[(ρ id).1]? = some (.cells arr e fr) ∧ unfrozenT u e arr fr ∧ arr.size = (ρ id).2.2 * u.sz ∧ RepDL (RO w0 R0 ρ w m) w u l (arr.toList.take (l.length * u.sz)) := by
  obtain ⟨b1, b2, hp⟩ := hm.box id _ h
  obtain ⟨arr, e, fr, h1, h2, h3, h4⟩ := hp hc
  have hle : l.length * u.sz ≤ arr.size := by rw [h3]; exact Nat.mul_le_mul_right _ b2
  refine ⟨arr, e, fr, h1, h2, h3, Elems.repDL (by rw [List.length_take]; simp; omega) fun i hi => ?_⟩
  obtain ⟨cs, k1, k2, k3⟩ := h4 i hi
  refine ⟨cs, k1, fun j hj => ?_, k3⟩
  have : i * u.sz + j < l.length * u.sz := by
    have : (i + 1) * u.sz ≤ l.length * u.sz := Nat.mul_le_mul_right _ hi
    rw [Nat.succ_mul] at this; omega
  dsimp only
  rw [List.getElem?_take, if_pos this, ← k2 j hj]
  simp

theorem boxRows_of {R : Nat → Prop} {ρ : Rho} {n : Nat} {w : World} {r : Nat × Nat × Nat} {u : Ty} {l : List u.T} {arr : Array Value} {e : TypeId} {fr : Nat × Nat} {vs rest : List Value} (h0 : l.length = r.2.1) (h0' : l.length ≤ r.2.2)
    (h1 : w.heap[r.1]? = some (.cells arr e fr)) (h2 : unfrozenT u e arr fr) (h3 : arr.size = r.2.2 * u.sz) (h4 : arr.toList = vs ++ rest) (h5 : RepDL R w u l vs) : BoxRel R ρ n w r (.rows u l) := by
  refine ⟨h0, h0', fun _ => ⟨arr, e, fr, h1, h2, h3, fun i hi => ?_⟩⟩
  obtain ⟨cs, k1, k2, k3⟩ := h5.elems i hi
  refine ⟨cs, k1, fun j hj => ?_, k3⟩
  rw [← k2 j hj, ← Array.getElem?_toList, h4]
  have : i * u.sz + j < vs.length := by
    rw [h5.length]
    have : (i + 1) * u.sz ≤ l.length * u.sz := Nat.mul_le_mul_right _ hi
    rw [Nat.succ_mul] at this; omega
  rw [List.getElem?_append_left this]

theorem unfrozen_zero (arr : Array Value) : unfrozen arr (0, 0) := fun i _ h => absurd h.2 (Nat.not_lt_zero _)
end
end Go.Sx
set_option linter.unusedSimpArgs false
set_option linter.unusedVariables false
namespace Go.Sx
open Go.RowKit
section
variable {P : Program} {E : Env} {α : Type} {L : α → Prop}

/-- An operation that may turn the world. -/
abbrev Yields' (P : Program) (m : Mem) (v : SV) (m' : Mem) (s : Sem Value) (w0 : World) (R0 : Nat → Prop) (ρ : Rho) (w : World) : Prop :=
  ∃ u w', s.run P w = .ok u w' ∧ OpOut w0 R0 ρ w m v m' u w'

theorem Plainly.yields {m : Mem} {v : SV} {s : Sem Value} {w0 : World} {R0 : Nat → Prop} {ρ : Rho} {w : World} (h : Plainly P m v s w0 R0 ρ w) (hm : MRel w0 R0 ρ w m) : Yields' P m v m s w0 R0 ρ w :=
  let ⟨u, h1, h2⟩ := h
  ⟨u, w, h1, OpOut.same hm h2⟩

/-! ### Where the elements of a slice lie -/

/-- The cells of a source of append. -/
theorem elemsOf_cells {u : Ty} {m : Mem} {x : SV} {xs : List u.T} (h : elemsOf u m x = some xs) {w0 : World} {R0 : Nat → Prop} {ρ : Rho} {w : World} {xv : Value} (hm : MRel w0 R0 ρ w m) (hx : Rep (RO w0 R0 ρ w m) ρ m.next w x xv) :
    ∃ vs, (Builtin.lenOf xv).run P w = .ok xs.length w ∧ (Builtin.firstCells u.sz xs.length xv).run P w = .ok ⟨vs⟩ w ∧ RepDL (RO w0 R0 ρ w m) w u xs vs := by
  have hsz : ∀ (t : Ty) (l : List t.T) (b o : Nat), Elems (RO w0 R0 ρ w m) w t l (fun k => w.cell? ⟨b, o + k, none⟩) → ∃ vs : List Value, (Go.loadCells ⟨b, o, none⟩ (l.length * t.sz)).run P w = .ok ⟨vs⟩ w ∧ RepDL (RO w0 R0 ρ w m) w t l vs := by
    intro t l b o hel
    have hcell : ∀ k, k < l.length * t.sz → ∃ v, w.cell? ⟨b, o + k, none⟩ = some v := by
      intro k hk
      have hpos : 0 < t.sz := by
        rcases Nat.eq_zero_or_pos t.sz with h0 | h0
        · rw [h0] at hk; omega
        · exact h0
      have hdm := Nat.div_add_mod k t.sz
      have hmod := Nat.mod_lt k hpos
      have hi : k / t.sz < l.length := Nat.div_lt_of_lt_mul (by rwa [Nat.mul_comm])
      obtain ⟨cs, c1, c2, _⟩ := hel (k / t.sz) hi
      have := c2 (k % t.sz) hmod
      dsimp only at this
      rw [show k / t.sz * t.sz + k % t.sz = k by rw [Nat.mul_comm]; exact hdm] at this
      rw [this, List.getElem?_eq_getElem (by omega)]
      exact ⟨_, rfl⟩
    obtain ⟨f, hf⟩ : ∃ f : Nat → Value, ∀ k, k < l.length * t.sz → w.cell? ⟨b, o + k, none⟩ = some (f k) :=
      ⟨fun k => if hk : k < l.length * t.sz then (hcell k hk).choose else default, fun k hk => by simp only [hk, dite_true]; exact (hcell k hk).choose_spec⟩
    refine ⟨(List.range (l.length * t.sz)).map f, run_loadCells w ⟨b, o, none⟩ _ f (fun j hj => by rw [Addr.add_lit]; exact hf j hj), Elems.repDL (by simp) fun i hi => ?_⟩
    obtain ⟨cs, c1, c2, c3⟩ := hel i hi
    refine ⟨cs, c1, fun j hj => ?_, c3⟩
    have : i * t.sz + j < l.length * t.sz := by
      have : (i + 1) * t.sz ≤ l.length * t.sz := Nat.mul_le_mul_right _ hi
      rw [Nat.succ_mul] at this; omega
    rw [← c2 j hj]
    dsimp only
    rw [hf _ this]
    simp [this]
  cases x <;> simp only [elemsOf] at h <;> try (cases h; done)
  case nilS =>
    injection h with h
    subst h
    rw [show xv = _ from hx]
    exact ⟨[], rfl, by simp [Builtin.firstCells], rfl⟩
  case list t l =>
    split at h
    · rename_i ht
      injection h with h
      subst ht
      dsimp only at h
      subst h
      obtain ⟨a, cap, hxv, hc, hel⟩ := hx
      injection hxv with hxv
      subst hxv
      rcases Nat.eq_zero_or_pos (List.length l) with h0 | h0
      · have : l = [] := List.eq_nil_of_length_eq_zero h0
        subst this
        refine ⟨[], rfl, ?_, rfl⟩
        cases a <;> simp [Builtin.firstCells, Go.loadCells, loadCellsFrom]
      · obtain ⟨b, o, rfl, hR, hall⟩ := hel h0
        obtain ⟨vs, h1, h2⟩ := hsz t l b o (fun i hi => hall i hi)
        exact ⟨vs, rfl, h1, h2⟩
    · cases h
  case row id =>
    split at h
    · rename_i t l hg
      split at h
      · rename_i ht
        injection h with h
        subst ht
        dsimp only at h
        subst h
        obtain ⟨hid, a, rfl, ha⟩ := hx
        obtain ⟨b1, b2, hp⟩ := hm.box id _ hg
        rcases Nat.eq_zero_or_pos (ρ id).2.2 with h0 | h0
        · have hl : l = [] := List.eq_nil_of_length_eq_zero (by omega)
          subst hl
          refine ⟨[], by rw [← b1]; rfl, ?_, rfl⟩
          cases a <;> simp [Builtin.firstCells, Go.loadCells, loadCellsFrom]
        · obtain rfl := ha h0
          obtain ⟨arr, e, fr, h1, h2, h3, h4⟩ := hp h0
          obtain ⟨vs, k1, k2⟩ := hsz t l (ρ id).1 0 (fun i hi => by
            obtain ⟨cs, c1, c2, c3⟩ := h4 i hi
            exact ⟨cs, c1, fun j hj => by dsimp only; rw [Nat.zero_add, cell_of_row w _ _ arr e fr h1]; exact c2 j hj, c3⟩)
          exact ⟨vs, by rw [← b1]; rfl, k1, k2⟩
      · cases h
    · cases h
  case arr id off n =>
    split at h
    · rename_i cs hg
      obtain ⟨hid, rfl⟩ := hx
      obtain ⟨arr, e, fr, h1, h2, h3⟩ := hm.box id _ hg
      have hr := (h3.drop off).take (n * u.sz)
      obtain ⟨hd, hl⟩ := unflatN_repDL h hr
      have hlen := hd.length
      rw [hl] at hlen ⊢
      refine ⟨(arr.toList.drop off).take (n * u.sz), rfl, ?_, hd⟩
      have := run_loadCells_list (P := P) w ⟨(ρ id).1, off, none⟩ ((arr.toList.drop off).take (n * u.sz)) (fun j v hj => by
        rw [Addr.add_lit, cell_of_row w _ _ arr e fr h1]
        have hjl : j < n * u.sz := by have := (List.getElem?_eq_some_iff.1 hj).1; omega
        rw [List.getElem?_take, if_pos hjl, List.getElem?_drop] at hj
        simpa using hj)
      rw [hlen] at this
      exact this
    · cases h
  case str s =>
    split at h
    · rename_i ht
      injection h with h
      subst ht
      dsimp only at h
      subst h
      rw [show xv = _ from hx]
      have hl : List.length (List.map (fun b : UInt8 => (b.toNat : Int)) s) = s.length := List.length_map _
      refine ⟨_, ?_, ?_, bytes_repDL s⟩
      · show Result.ok s.length w = Result.ok (List.length (List.map (fun b : UInt8 => (b.toNat : Int)) s)) w
        rw [hl]
      · show (Builtin.firstCells 1 (List.length (List.map (fun b : UInt8 => (b.toNat : Int)) s)) _).run P w = _
        rw [hl]
        simp only [Builtin.firstCells, Sem.run_pure, Result.ok.injEq, and_true]
        apply Array.ext'
        simp [Lib.extract_data]
    · cases h
  case raw v =>
    split at h
    · rename_i a cap
      injection h with h
      subst h
      rw [show xv = _ from hx]
      refine ⟨[], rfl, ?_, rfl⟩
      cases a with
      | none => simp [Builtin.firstCells, Go.loadCells]
      | some a =>
        simp [Builtin.firstCells, Go.loadCells]
        rfl
    · cases h

theorem bytesOf_cells {m : Mem} {x : SV} {s : List UInt8} (h : bytesOf m x = some s) {w0 : World} {R0 : Nat → Prop} {ρ : Rho} {w : World} {xv : Value} (hm : MRel w0 R0 ρ w m) (hx : Rep (RO w0 R0 ρ w m) ρ m.next w x xv) :
    (∃ a l c, xv = .slice a l c) ∧ (Conv.bytesToString xv).run P w = .ok (.string ⟨⟨s⟩⟩) w := by
  have key : ∀ (l : List Int) (vs : List Value), RepDL (RO w0 R0 ρ w m) w (.int .u8) l vs → vs = l.map (Value.int .u8) := by
    intro l
    induction l with
    | nil => intro vs h; exact h
    | cons n l ih =>
      intro vs h
      obtain ⟨v1, v2, rfl, h1, h2⟩ := h
      rw [show v1 = _ from h1, ih v2 h2]; rfl
  have fin : ∀ (ns : List Int) (a : Addr) (len cap : Nat) (vs : List Value), (Go.loadCells a len).run P w = .ok ⟨vs⟩ w → vs = ns.map (Value.int .u8) → (Conv.bytesToString (.slice (some a) len cap)).run P w = .ok (.string ⟨⟨ns.map fun n => UInt8.ofNat n.toNat⟩⟩) w := by
    intro ns a len cap vs h1 h2
    subst h2
    rw [run_bytesToString w a len cap ns h1, foldl_push_bytes]
    simp [ByteArray.empty, ByteArray.emptyWithCapacity]
    rfl
  cases x <;> simp only [bytesOf] at h <;> try (cases h; done)
  case nilS =>
    injection h with h
    subst h
    rw [show xv = _ from hx]
    exact ⟨⟨_, _, _, rfl⟩, rfl⟩
  case list t l =>
    cases t <;> try (cases h; done)
    case int k =>
      cases k <;> try (cases h; done)
      case u8 =>
        injection h with h
        have he : elemsOf (.int .u8) m (.list (.int .u8) l) = some l := by simp [elemsOf]
        obtain ⟨vs, h1, h2, h3⟩ := elemsOf_cells (P := P) he hm hx
        obtain ⟨a, cap, hxv, hc, hel⟩ := hx
        injection hxv with hxv
        subst hxv
        refine ⟨⟨_, _, _, rfl⟩, ?_⟩
        cases a with
        | none =>
          have : List.length (l : List Int) = 0 := by
            rcases Nat.eq_zero_or_pos (List.length (l : List Int)) with h0 | h0
            · exact h0
            · obtain ⟨b, o, hb, _⟩ := hel h0; cases hb
          have : (l : List Int) = [] := List.eq_nil_of_length_eq_zero this
          rw [← h, this]; rfl
        | some a =>
          rw [← h]
          exact fin _ _ _ _ _ (by simpa [Builtin.firstCells, Ty.sz] using h2) (key _ _ h3)
  case row id =>
    split at h
    · rename_i l hg
      injection h with h
      have he : elemsOf (.int .u8) m (.row id) = some l := by simp [elemsOf, hg]
      obtain ⟨vs, h1, h2, h3⟩ := elemsOf_cells (P := P) he hm hx
      obtain ⟨hid, a, rfl, ha⟩ := hx
      obtain ⟨b1, b2, hp⟩ := hm.box id _ hg
      refine ⟨⟨_, _, _, rfl⟩, ?_⟩
      cases a with
      | none =>
        have hc : ¬ 0 < (ρ id).2.2 := fun hc => by have := ha hc; cases this
        have : (l : List Int) = [] := List.eq_nil_of_length_eq_zero (by omega)
        rw [← h, this]; rfl
      | some a =>
        rw [← h]
        refine fin _ _ _ _ _ (by rw [← b1]; simpa [Builtin.firstCells, Ty.sz] using h2) (key _ _ h3)
    · cases h
  case arr id off n =>
    split at h
    · rename_i cs hg
      split at h
      · rename_i l hl
        injection h with h
        have he : elemsOf (.int .u8) m (.arr id off n) = some l := by simp only [elemsOf, hg]; exact hl
        have hln : List.length (l : List Int) = n := by
          obtain ⟨arr, e, fr, h1, h2, h3⟩ := hm.box id _ hg
          exact (unflatN_repDL hl ((h3.drop off).take (n * (Ty.int .u8).sz))).2
        obtain ⟨vs, h1, h2, h3⟩ := elemsOf_cells (P := P) he hm hx
        obtain ⟨hid, rfl⟩ := hx
        refine ⟨⟨_, _, _, rfl⟩, ?_⟩
        rw [← h]
        refine fin _ _ _ _ _ (by rw [← hln]; simpa [Builtin.firstCells, Ty.sz] using h2) (key _ _ h3)
      · cases h
    · cases h

/-- A new block of rows. -/
theorem push_rows {w0 : World} {R0 : Nat → Prop} {ρ : Rho} {w w1 : World} {m m' : Mem} {u : Ty} {l : List u.T} {arr : Array Value} {e : TypeId} {fr : Nat × Nat} {vs rest : List Value} {cap : Nat} (hm : MRel w0 R0 ρ w m) (hp : MPush m (.rows u l) m')
    (hos : w1.os = w.os) (ht : w1.tape = w.tape) (hpu : w1.output = w.output) (hsz : w1.heap.size = w.heap.size + 1) (hold : ∀ k, k < w.heap.size → w1.heap[k]? = w.heap[k]?) (hnew : w1.heap[w.heap.size]? = some (.cells arr e fr))
    (hu : unfrozenT u e arr fr) (ha : arr.size = cap * u.sz) (hl : l.length ≤ cap) (hv : arr.toList = vs ++ rest) (hd : RepDL (RO w0 R0 ρ w m) w u l vs) :
    OpOut w0 R0 ρ w m (.row m.next) m' (.slice (some ⟨w.heap.size, 0, none⟩) l.length cap) w1 := by
  obtain ⟨h1, h2⟩ := hm.push (w' := w1) (r := (w.heap.size, l.length, cap)) hp hos ht hpu (by omega) hold (fun _ => ⟨Nat.le_refl _, by show w.heap.size < _; omega⟩)
    (fun R n ρ' e' => boxRows_of rfl hl hnew hu ha hv (RepDL.mono e'.keep hd))
  refine ⟨_, h1, h2, by rw [hp.2]; omega, _, by rw [upd_same], fun _ => by rw [upd_same]⟩

theorem opConv_sound (hE : EOK P E) {src dst : TypeId} {x : SV} {p : Plan} {m : Mem} {κ : Kont α} (h : (opConv E src dst x p m κ).holds L) :
    ∃ v m', (κ v p m').holds L ∧ ((∀ r e, E.row dst = some r → r.desc ≠ .slice e) → m' = m) ∧ ∀ w0 R0 ρ w (xv : Value), MRel w0 R0 ρ w m → Rep (RO w0 R0 ρ w m) ρ m.next w x xv → Yields' P m v m' (Go.convert src dst xv) w0 R0 ρ w := by
  unfold opConv at h
  split at h
  · rename_i rs rd hs hd
    have hus := (hE.row _ _ hs).und
    have hud := (hE.row _ _ hd).und
    split at h
    · rename_i k k' n hdd
      rw [hdd] at hud
      refine ⟨_, m, h, fun _ => rfl, fun w0 R0 ρ w xv hm hx => Plainly.yields ⟨_, ?_, rfl⟩ hm⟩
      rw [show xv = _ from hx]
      simp only [Go.convert, Sem.run_bind, run_underlying hus, run_underlying hud, Result.andThen_ok, Conv.intToInt, Sem.run_pure]
    · rename_i s hdd
      rw [hdd] at hud
      refine ⟨_, m, h, fun _ => rfl, fun w0 R0 ρ w xv hm hx => Plainly.yields ⟨_, ?_, rfl⟩ hm⟩
      rw [show xv = _ from hx]
      simp only [Go.convert, Sem.run_bind, run_underlying hus, run_underlying hud, Result.andThen_ok, Sem.run_pure]
    · rename_i e s hss hdd
      rw [hss] at hus
      rw [hdd] at hud
      split at h
      · rename_i sz by_ ze ty eg he hrow
        have hue := (hE.row _ _ hrow).und
        dsimp only at hue
        split at h
        case h_2 => exact h.elim
        rename_i hsz1
        obtain ⟨m', h1, h2⟩ := Mem.push_holds h
        refine ⟨_, m', h2, fun hne => absurd hdd (hne _ _ hd), fun w0 R0 ρ w xv hm hx => ?_⟩
        rw [show xv = _ from hx]
        have hl : List.length (List.map (fun b : UInt8 => (b.toNat : Int)) s) = s.length := List.length_map _
        refine ⟨_, _, Lib.run_convert_string_bytes w src dst e ⟨⟨s⟩⟩ hus hud hue, ?_⟩
        have hcap : s.length ≤ grownCap w s.length 0 e := Nat.le_add_right _ _
        have key := push_rows (w1 := Lib.bytesWorld w e ⟨⟨s⟩⟩) (u := .int .u8) (l := List.map (fun b : UInt8 => (b.toNat : Int)) s) (cap := grownCap w s.length 0 e) (arr := Lib.bytesCells w e ⟨⟨s⟩⟩) (rest := (Array.replicate (grownCap w s.length 0 e - s.length) (.int .u8 0)).toList) hm h1 rfl rfl rfl (Lib.bytesWorld_size w e _) (fun k hk => Lib.bytesWorld_at_old w e _ k hk) (Lib.bytesWorld_at_new w e _)
          ⟨fun i hi hh => by have := hh.1; dsimp only at this; omega, fun _ => (hE.row _ _ hrow).el (.inr rfl) (by simpa using hsz1)⟩ (by simp [Lib.bytesCells, Ty.sz, ByteArray.size]; omega) (by show List.length (List.map (fun b : UInt8 => (b.toNat : Int)) s) ≤ _; rw [hl]; exact hcap) (vs := s.map fun b => Value.int .u8 b.toNat)
          (by simp only [Lib.bytesCells, Array.toList_append, Array.toList_map]; rfl) (bytes_repDL s)
        have e2 : (Value.slice (some ⟨w.heap.size, 0, none⟩) (List.length (List.map (fun b : UInt8 => (b.toNat : Int)) s)) (grownCap w s.length 0 e)) = .slice (some ⟨w.heap.size, 0, none⟩) s.length (grownCap w s.length 0 e) := by rw [hl]
        exact e2 ▸ key
      · exact h.elim
    · rename_i e hss hdd _
      rw [hss] at hus
      rw [hdd] at hud
      split at h
      · rename_i sz by_ ze ty eg he hrow
        have hue := (hE.row _ _ hrow).und
        dsimp only at hue
        split at h
        · rename_i s hb
          refine ⟨_, m, h, fun _ => rfl, fun w0 R0 ρ w xv hm hx => Plainly.yields ⟨.string ⟨⟨s⟩⟩, ?_, rfl⟩ hm⟩
          obtain ⟨⟨a, l, c, rfl⟩, hrun⟩ := bytesOf_cells (P := P) hb hm hx
          rw [run_convert_bytes_string w src dst e a l c hus hue hud, hrun]
        · exact h.elim
      · exact h.elim
    · exact h.elim
  · exact h.elim
end
end Go.Sx
set_option linter.unusedSimpArgs false
set_option linter.unusedVariables false
namespace Go.Sx
open Go.RowKit
section
variable {P : Program} {E : Env} {α : Type} {L : α → Prop}

theorem opExtract_sound {x : SV} {i : Nat} {p : Plan} {m : Mem} {κ : Kont α} (h : (opExtract x i p m κ).holds L) :
    ∃ v, (κ v p m).holds L ∧ ∀ (m : Mem) w0 R0 ρ w (xv : Value), Rep (RO w0 R0 ρ w m) ρ m.next w x xv → Plainly P m v (Instr.extract xv i) w0 R0 ρ w := by
  unfold opExtract at h
  split at h
  · rename_i vs
    split at h
    · rename_i v hv
      rw [nth_eq] at hv
      rw [frc_eq] at h
      refine ⟨v, h, fun m w0 R0 ρ w xv hx => ?_⟩
      obtain ⟨us, rfl, hus⟩ := hx
      obtain ⟨u, h1, h2⟩ := hus.get hv
      refine ⟨u, ?_, h2⟩
      have : (⟨us⟩ : Array Value)[i]? = some u := by simpa using h1
      simp only [Instr.extract, this, Sem.run_pure]
    · exact h.elim
  · exact h.elim

/-! ### Slices -/

theorem sliceBound_ok {k : IntKind} {i : Int} {y : Nat} {code : BoundsCode} (h : 0 ≤ i ∧ i ≤ y) (w : World) : (Instr.sliceBound (.int k i) y code).run P w = .ok i.toNat w := by
  simp only [Instr.sliceBound, asIntOf, Sem.run_bind, Sem.run_pure, Result.andThen_ok, if_pos h]

abbrev OptRep (R : Nat → Prop) (ρ : Rho) (n : Nat) (w : World) (x : Option SV) (v : Option Value) : Prop :=
  match x, v with
  | some x, some v => Rep R ρ n w x v
  | none, none => True
  | _, _ => False

/-- The bounds of a slice expression without a third. -/
theorem cut_bounds {γ : Type} {l : List γ} {lo hi : Option SV} {bl : Bool × List γ} (h : cut l lo hi = some bl) (hb : bl.1 = true) (isSlice : Bool) (cap : Nat) (hcap : l.length ≤ cap) (hs : isSlice = false → cap = l.length) {R : Nat → Prop} {ρ : Rho} {n : Nat} {w : World} {lv hv : Option Value}
    (hl : OptRep R ρ n w lo lv) (hh : OptRep R ρ n w hi hv) :
    ∃ a b, (Instr.sliceBounds isSlice l.length cap lv hv none).run P w = .ok (a, b, cap) w ∧ a ≤ b ∧ b ≤ l.length ∧ bl.2 = (l.take b).drop a := by
  unfold cut at h
  split at h
  · injection h with h; subst h
    cases lv <;> cases hv <;> simp [OptRep] at hl hh
    exact ⟨0, l.length, by simp [Instr.sliceBounds], Nat.zero_le _, Nat.le_refl _, by simp⟩
  · rename_i k a
    injection h with h; subst h
    simp only [Bool.and_eq_true, decide_eq_true_eq] at hb
    cases lv with
    | none => exact hl.elim
    | some v =>
      cases hv <;> simp [OptRep] at hh
      obtain rfl : v = _ := hl
      refine ⟨a.toNat, l.length, ?_, by omega, Nat.le_refl _, by simp⟩
      simp [Instr.sliceBounds, sliceBound_ok (P := P) (k := k) (i := a) (y := l.length) (code := .sliceB) hb w]
  · rename_i k b
    injection h with h; subst h
    simp only [Bool.and_eq_true, decide_eq_true_eq] at hb
    cases hv with
    | none => exact hh.elim
    | some v =>
      cases lv <;> simp [OptRep] at hl
      obtain rfl : v = _ := hh
      refine ⟨0, b.toNat, ?_, by omega, by omega, by simp⟩
      cases isSlice <;> simp [Instr.sliceBounds, sliceBound_ok (P := P) (k := k) (i := b) (y := cap) (code := .sliceAcap) (by omega) w, sliceBound_ok (P := P) (k := k) (i := b) (y := cap) (code := .sliceAlen) (by omega) w]
  · rename_i k a k' b
    injection h with h; subst h
    simp only [Bool.and_eq_true, decide_eq_true_eq] at hb
    cases lv with
    | none => exact hl.elim
    | some v =>
      cases hv with
      | none => exact hh.elim
      | some u =>
        obtain rfl : v = _ := hl
        obtain rfl : u = _ := hh
        obtain ⟨⟨⟨h1, h2⟩, h3⟩, h4⟩ := hb
        have hb2 : a ≤ ((b.toNat : Nat) : Int) := by omega
        refine ⟨a.toNat, b.toNat, ?_, by omega, by omega, by simp⟩
        cases isSlice <;> simp [Instr.sliceBounds, sliceBound_ok (P := P) (k := k') (i := b) (y := cap) (code := .sliceAcap) (by omega) w, sliceBound_ok (P := P) (k := k') (i := b) (y := cap) (code := .sliceAlen) (by omega) w,
          sliceBound_ok (P := P) (k := k) (i := a) (y := b.toNat) (code := .sliceB) ⟨h3, hb2⟩ w]
  · cases h

theorem elems_cut {R : Nat → Prop} {w : World} {u : Ty} {l : List u.T} {b o a e : Nat} (h : ∀ i (h : i < List.length l), ∃ cs : List Value, cs.length = u.sz ∧ (∀ j, j < u.sz → w.cell? ⟨b, o + (i * u.sz + j), none⟩ = cs[j]?) ∧ RepD R w u (List.get l ⟨i, h⟩) cs) :
    ∀ i (h : i < List.length ((l.take e).drop a)), ∃ cs : List Value, cs.length = u.sz ∧ (∀ j, j < u.sz → w.cell? ⟨b, (o + a * u.sz) + (i * u.sz + j), none⟩ = cs[j]?) ∧ RepD R w u (List.get ((l.take e).drop a) ⟨i, h⟩) cs := by
  intro i hi
  have hi' : a + i < l.length := by rw [List.length_drop, List.length_take] at hi; omega
  obtain ⟨cs, h1, h2, h3⟩ := h (a + i) hi'
  refine ⟨cs, h1, fun j hj => ?_, ?_⟩
  · rw [← h2 j hj]
    congr 2
    rw [Nat.add_mul]; omega
  · have : List.get ((l.take e).drop a) ⟨i, hi⟩ = List.get l ⟨a + i, hi'⟩ := by simp
    rw [this]; exact h3

theorem opSlice_sound (hE : EOK P E) {t : TypeId} {x : SV} {lo hi mx : Option SV} {p : Plan} {m : Mem} {κ : Kont α} (h : (opSlice E t x lo hi mx p m κ).holds L) :
    ∃ v m', (κ v p m').holds L ∧ (mx = none → m' = m) ∧ ∀ w0 R0 ρ w (xv : Value) (lv hv mv : Option Value), MRel w0 R0 ρ w m → Rep (RO w0 R0 ρ w m) ρ m.next w x xv → OptRep (RO w0 R0 ρ w m) ρ m.next w lo lv → OptRep (RO w0 R0 ρ w m) ρ m.next w hi hv → OptRep (RO w0 R0 ρ w m) ρ m.next w mx mv →
      Yields' P m v m' (Instr.sliceAt t xv lv hv mv) w0 R0 ρ w := by
  unfold opSlice at h
  split at h
  · rename_i r hr
    have hu := (hE.row _ _ hr).und
    split at h
    · -- a string
      rename_i s hd
      rw [hd] at hu
      split at h
      · rename_i bl hbl
        obtain ⟨hb, h⟩ := h
        refine ⟨_, m, h, fun _ => rfl, fun w0 R0 ρ w xv lv hv mv hm hx hl hh hmx => Plainly.yields ⟨.string ⟨⟨bl.2⟩⟩, ?_, rfl⟩ hm⟩
        rw [show xv = _ from hx]
        cases mv with
        | some _ => exact hmx.elim
        | none =>
          obtain ⟨a, b, h1, h2, h3, h4⟩ := cut_bounds (P := P) hbl hb false s.length (Nat.le_refl _) (fun _ => rfl) hl hh
          have hsz : (ByteArray.mk ⟨s⟩).size = s.length := rfl
          simp only [Instr.sliceAt, Instr.slice, Sem.run_bind, run_underlying hu, Result.andThen_ok, Option.isSome_none, Bool.false_eq_true, if_false, hsz, Sem.run_pure, h1, Result.ok.injEq, and_true, Value.string.injEq]
          rw [Lib.extract_eq, h4, List.drop_take]
      · exact h.elim
    · -- a slice
      rename_i e u xs hd
      rw [hd] at hu
      split at h
      · rename_i re hre
        have hok := hE.row _ _ hre
        split at h
        · rename_i hs
          have hs' : re.size = u.sz := by simpa using hs
          split at h
          · rename_i bl hbl
            obtain ⟨hb, h⟩ := h
            refine ⟨_, m, h, fun _ => rfl, fun w0 R0 ρ w xv lv hv mv hm hx hl hh hmx => ?_⟩
            cases mv with
            | some _ => exact hmx.elim
            | none =>
              obtain ⟨A, cap, hxv, hc, hel⟩ := hx
              injection hxv with hxv
              subst hxv
              obtain ⟨a, b, h1, h2, h3, h4⟩ := cut_bounds (P := P) hbl hb true cap hc (fun h => by cases h) hl hh
              refine Plainly.yields ⟨.slice (if cap = a then A else A.map (·.add (a * u.sz))) (b - a) (cap - a), ?_, ?_⟩ hm
              · simp only [Instr.sliceAt, Instr.slice, Sem.run_bind, run_underlying hu, Result.andThen_ok, h1, run_sizeOf' hok, hs', Sem.run_pure]
              · have hlen : List.length bl.2 = b - a := by rw [h4, List.length_drop, List.length_take, Nat.min_eq_left h3]
                refine ⟨_, cap - a, by rw [hlen], by rw [hlen]; omega, fun hp => ?_⟩
                obtain ⟨B, o, rfl, hR, hall⟩ := hel (by omega)
                rw [if_neg (by omega)]
                refine ⟨B, o + a * u.sz, by simp [Addr.add_lit], hR, ?_⟩
                have := elems_cut (a := a) (e := b) hall
                rw [← h4] at this
                exact this
          · exact h.elim
        · exact h.elim
      · exact h.elim
    · -- a whole array behind a pointer
      rename_i n e id off hd
      rw [hd] at hu
      split at h
      · rename_i re hre
        have hok := hE.row _ _ hre
        refine ⟨_, m, h, fun _ => rfl, fun w0 R0 ρ w xv lv hv mv hm hx hl hh hmx => ?_⟩
        cases lv <;> cases hv <;> cases mv <;> first | exact hl.elim | exact hh.elim | exact hmx.elim | skip
        obtain ⟨hid, rfl⟩ := hx
        refine Plainly.yields ⟨.slice (some ⟨(ρ id).1, off, none⟩) n n, ?_, hid, rfl⟩ hm
        simp [Instr.sliceAt, run_underlying hu, Instr.sureAddr, Instr.sliceBounds, run_sizeOf' hok, Addr.add]
      · exact h.elim
    · exact h.elim
  · rename_i r mx' hr
    have hu := (hE.row _ _ hr).und
    split at h
    · rename_i e k h' k' c hd
      rw [hd] at hu
      split at h
      · rename_i de sz by_ ze u eg he hre
        have hok := hE.row _ _ hre
        split at h
        · rename_i hs
          simp only [Bool.and_eq_true, beq_iff_eq] at hs
          obtain ⟨hb, h⟩ := h
          simp only [Bool.and_eq_true, beq_iff_eq] at hb
          obtain ⟨m', h1, h2⟩ := Mem.push_holds h
          refine ⟨_, m', h2, fun hn => (by cases hn), fun w0 R0 ρ w xv lv hv mv hm hx hl hh hmx => ?_⟩
          cases lv with
          | some _ => exact hl.elim
          | none =>
            cases hv with
            | none => exact hh.elim
            | some hv =>
              cases mv with
              | none => exact hmx.elim
              | some mv =>
                have hform : ∃ A len cap, xv = .slice A len cap := by
                  cases x <;> simp only [emptyOk] at hs <;> try (cases hs.2; done)
                  · exact ⟨_, _, _, hx⟩
                  · obtain ⟨A, cap, hxv, _⟩ := hx
                    injection hxv with hxv
                    exact ⟨_, _, _, hxv⟩
                  · obtain ⟨_, A, hxv, _⟩ := hx
                    exact ⟨_, _, _, hxv⟩
                obtain ⟨A, len, cap, rfl⟩ := hform
                obtain rfl : hv = _ := hh
                obtain rfl : mv = _ := hmx
                rw [hb.1, hb.2]
                refine ⟨.slice A 0 0, w, ?_, ?_⟩
                · have hz : ∀ (k : IntKind) (y : Nat) (code : BoundsCode), (Instr.sliceBound (.int k 0) y code).run P w = .ok 0 w := fun k y code => sliceBound_ok (P := P) (k := k) (i := 0) (by omega) w
                  simp [Instr.sliceAt, Instr.slice, run_underlying hu, Instr.sliceBounds, hz, run_sizeOf' hok]
                · obtain ⟨g1, g2⟩ := hm.push (w' := w) (r := (0, 0, 0)) h1 rfl rfl rfl (Nat.le_refl _) (fun _ _ => rfl) (fun hsol => absurd hsol (Nat.lt_irrefl _)) (fun R n ρ' e' => ⟨rfl, Nat.le_refl _, fun h0 => absurd h0 (Nat.lt_irrefl _)⟩)
                  exact ⟨_, g1, g2, by rw [h1.2]; omega, A, by rw [upd_same], fun h0 => by rw [upd_same] at h0; exact absurd h0 (Nat.lt_irrefl _)⟩
        · exact h.elim
      · exact h.elim
    · exact h.elim
  · exact h.elim
end
end Go.Sx
set_option linter.unusedSimpArgs false
set_option linter.unusedVariables false
namespace Go.Sx
open Go.RowKit
section
variable {P : Program} {E : Env} {α : Type} {L : α → Prop}

theorem not_ints {m : Mem} {u : Ty} {x : SV} {xs : List u.T} (h : elemsOf u m x = some xs) {R : Nat → Prop} {ρ : Rho} {n : Nat} {w : World} {xv : Value} (hx : Rep R ρ n w x xv) : (∃ a l c, xv = .slice a l c) ∨ ∃ s, xv = .string s := by
  cases x <;> simp only [elemsOf] at h <;> try (cases h; done)
  · exact .inr ⟨_, hx⟩
  · exact .inl ⟨_, _, _, hx⟩
  · obtain ⟨A, cap, hxv, _⟩ := hx
    injection hxv with hxv
    exact .inl ⟨_, _, _, hxv⟩
  · obtain ⟨_, A, hxv, _⟩ := hx
    exact .inl ⟨_, _, _, hxv⟩
  · exact .inl ⟨_, _, _, hx.2⟩
  case raw v =>
    split at h
    · exact .inl ⟨_, _, _, hx⟩
    · cases h

theorem repD_one {R : Nat → Prop} {w : World} : ∀ (t : Ty) (x : t.T) (vs : List Value), RepD R w t x vs → ∀ y ∈ vs, y.oneCell' = true
  | .unit, _, vs, h, y, hy => by rw [show vs = [] from h] at hy; cases hy
  | .int _, _, vs, h, y, hy => by rw [show vs = _ from h] at hy; rw [List.mem_singleton.1 hy]; rfl
  | .bool, _, vs, h, y, hy => by rw [show vs = _ from h] at hy; rw [List.mem_singleton.1 hy]; rfl
  | .str, _, vs, h, y, hy => by rw [show vs = _ from h] at hy; rw [List.mem_singleton.1 hy]; rfl
  | .list t, l, vs, h, y, hy => by
    obtain ⟨a, cap, rfl, _⟩ := h
    rw [List.mem_singleton.1 hy]; rfl
  | .pair a b, x, vs, h, y, hy => by
    obtain ⟨v1, v2, rfl, h1, h2⟩ := h
    rcases List.mem_append.1 hy with hy | hy
    · exact repD_one a x.1 v1 h1 y hy
    · exact repD_one b x.2 v2 h2 y hy

/-- Where the second operand's type is no integer: the source is what it says. -/
structure AppOK (P : Program) (ts : Array TypeId) (t e : TypeId) : Prop where
  t0 : ts[0]? = some t
  t1 : ∃ t1, ts[1]? = some t1 ∧ ((∃ e', P.underlying t1 = some (.slice e')) ∨ P.underlying t1 = some .string)

theorem append_room {ts : Array TypeId} {t e ty : TypeId} {re : Row} (ha : AppOK P ts t e) (hu : P.underlying t = some (.slice e)) (hok : RowOK P e re) {base : Option Addr} {len cap : Nat} {xv : Value} {n : Nat} {w : World} (hn : (Builtin.lenOf xv).run P w = .ok n w) (hle : len + n ≤ cap) :
    (Builtin.append_ ts ty #[.slice base len cap, xv]).run P w = ((Builtin.firstCells re.size n xv).run P w).andThen fun new w => match base with
      | some a => ((storeCells (a.add (len * re.size)) new.toList).run P w).andThen fun _ w => .ok (.slice base (len + n) cap) w
      | none => .ok (.slice base (len + n) cap) w := by
  obtain ⟨t1, ht1, hd⟩ := ha.t1
  rcases hd with ⟨e', hd⟩ | hd <;> cases base <;> simp [Builtin.append_, ha.t0, ht1, run_underlying hu, run_underlying hd, run_sizeOf' hok, hn, hle]

theorem append_grow {ts : Array TypeId} {t e ty : TypeId} {re : Row} (ha : AppOK P ts t e) (hu : P.underlying t = some (.slice e)) (hok : RowOK P e re) {base : Option Addr} {len cap : Nat} {xv z : Value} {n : Nat} {w : World} {old new : List Value} (hn : (Builtin.lenOf xv).run P w = .ok n w) (hgt : cap < len + n)
    (hb : 1 ≤ re.bytes) (hfit : (len + n) * re.bytes ≤ 140737488355328) (ho : (Builtin.firstCells re.size len (.slice base len cap)).run P w.drew = .ok ⟨old⟩ w.drew) (hnew : (Builtin.firstCells re.size n xv).run P w.drew = .ok ⟨new⟩ w.drew) (hz : ∀ w, (zeroValue e).run P w = .ok z w) :
    (Builtin.append_ ts ty #[.slice base len cap, xv]).run P w =
      .ok (.slice (some ⟨w.heap.size, 0, none⟩) (len + n) (grownCap w (len + n) cap e)) (w.drew.alloc (.cells (⟨old⟩ ++ ⟨new⟩ ++ Builtin.zeroCells z.cells (grownCap w (len + n) cap e - (len + n))) e)) := by
  obtain ⟨t1, ht1, hd⟩ := ha.t1
  obtain ⟨i, hi, hib, his⟩ := run_typeInfo' hok
  have h1 : ¬ len + n ≤ cap := by omega
  have h2 : ¬ i.bytes = 0 := by omega
  have h3 : ¬ (281474976710656 < Builtin.nextslicecap (len + n) cap * i.bytes) := by
    have := growslice_fits hgt hfit
    rw [hib]; omega
  rcases hd with ⟨e', hd⟩ | hd <;> simp [Builtin.append_, ha.t0, ht1, run_underlying hu, run_underlying hd, run_sizeOf' hok, hn, h1, hi, h2, h3, Question.forced, ho, hnew, hz, newRow, grownCap] <;> exact congrArg (fun c => w.drew.alloc (Obj.cells c e)) (Array.ext' (by simp))

/-- What the old row holds. -/
theorem old_cells {w0 : World} {R0 : Nat → Prop} {ρ : Rho} {w : World} {m : Mem} (hm : MRel w0 R0 ρ w m) {u : Ty} {id : Nat} {l : List u.T} (hg : m.get id = some (.rows u l)) {sv : Value} (hs : Rep (RO w0 R0 ρ w m) ρ m.next w (.row id) sv) :
    ∃ base vs, sv = .slice base l.length (ρ id).2.2 ∧ (0 < (ρ id).2.2 → base = some ⟨(ρ id).1, 0, none⟩) ∧ (Builtin.firstCells u.sz l.length sv).run P w = .ok ⟨vs⟩ w ∧ RepDL (RO w0 R0 ρ w m) w u l vs := by
  obtain ⟨vs, h1, h2, h3⟩ := elemsOf_cells (P := P) (u := u) (xs := l) (by simp [elemsOf, hg]) hm hs
  obtain ⟨hid, a, rfl, ha⟩ := hs
  obtain ⟨b1, _⟩ := hm.box id _ hg
  exact ⟨a, vs, by rw [b1], ha, h2, h3⟩

theorem firstCells_drew {size n : Nat} {v : Value} {w : World} {cs : Array Value} (h : (Builtin.firstCells size n v).run P w = .ok cs w) : (Builtin.firstCells size n v).run P w.drew = .ok cs w.drew := by
  cases v with
  | slice a l c =>
    cases a with
    | none => simp only [Builtin.firstCells, Sem.run_pure, Result.ok.injEq] at h ⊢; exact ⟨h.1, trivial⟩
    | some a =>
      simp only [Builtin.firstCells, Go.loadCells] at h ⊢
      have key : ∀ (k i : Nat) (acc cs : Array Value), (loadCellsFrom a i k acc).run P w = .ok cs w → (loadCellsFrom a i k acc).run P w.drew = .ok cs w.drew := by
        intro k
        induction k with
        | zero => intro i acc cs h; simp only [loadCellsFrom, Sem.run_pure, Result.ok.injEq] at h ⊢; exact ⟨h.1, trivial⟩
        | succ k ih =>
          intro i acc cs h
          simp only [loadCellsFrom, Sem.run_bind, run_load, World.cell?_drew] at h ⊢
          cases hc : w.cell? (a.add i) with
          | some v => rw [hc] at h; exact ih _ _ _ h
          | none =>
            rw [hc] at h
            dsimp only at h ⊢
            have hf : w.drew.farLoad P (a.add i) (Mode.plain == .atomic) = w.farLoad P (a.add i) (Mode.plain == .atomic) := rfl
            rw [hf]
            cases hq : w.farLoad P (a.add i) (Mode.plain == .atomic) with
            | ok q => rw [hq] at h; exact ih _ _ _ h
            | error e => rw [hq] at h; cases h
      exact key _ _ _ _ h
  | string s => simp only [Builtin.firstCells, Sem.run_pure, Result.ok.injEq] at h ⊢; exact ⟨h.1, trivial⟩
  | _ => simp [Builtin.firstCells] at h

/-- The grown row. -/
theorem grown_out {w0 : World} {R0 : Nat → Prop} {ρ : Rho} {w : World} {m m' : Mem} {u : Ty} {l xs : List u.T} {old new : List Value} {e : TypeId} {z : Value} {cap : Nat} (hm : MRel w0 R0 ρ w m) (hp : MPush m (.rows u (l ++ xs)) m') (ho : RepDL (RO w0 R0 ρ w m) w u l old) (hn : RepDL (RO w0 R0 ρ w m) w u xs new)
    (hz : ∀ R w, RepD R w u u.dflt z.cells.toList) (hel : u = .int .u8 → El8 e) :
    OpOut w0 R0 ρ w m (.row m.next) m' (.slice (some ⟨w.heap.size, 0, none⟩) (l.length + xs.length) (grownCap w (l.length + xs.length) cap e)) (w.drew.alloc (.cells (⟨old⟩ ++ ⟨new⟩ ++ Builtin.zeroCells z.cells (grownCap w (l.length + xs.length) cap e - (l.length + xs.length))) e)) := by
  have hzs : z.cells.size = u.sz := by
    have := (RepD.flat (ρ := ρ) (n := 0) u u.dflt _ (hz (fun _ => True) w)).1
    simpa using this
  have hcap : l.length + xs.length ≤ grownCap w (l.length + xs.length) cap e := Nat.le_add_right _ _
  have := push_rows (u := u) (l := l ++ xs) (cap := grownCap w (l.length + xs.length) cap e) (vs := old ++ new) (rest := (Builtin.zeroCells z.cells (grownCap w (l.length + xs.length) cap e - (l.length + xs.length))).toList)
    (w1 := w.drew.alloc (.cells (⟨old⟩ ++ ⟨new⟩ ++ Builtin.zeroCells z.cells (grownCap w (l.length + xs.length) cap e - (l.length + xs.length))) e)) hm hp rfl rfl rfl (by simp) (fun k hk => Below.heap_alloc w.drew _ k hk) (heap_alloc_new w.drew _) ⟨unfrozen_zero _, hel⟩
    (by
      have h1 := ho.length
      have h2 := hn.length
      simp only [Array.size_append, Builtin.zeroCells, Array.size_map, Array.size_range, hzs]
      have e1 : (⟨old⟩ : Array Value).size = old.length := rfl
      have e2 : (⟨new⟩ : Array Value).size = new.length := rfl
      rw [e1, e2, h1, h2, ← Nat.add_mul, ← Nat.add_mul]
      congr 1; omega)
    (by simpa using hcap) (by simp) (ho.append hn)
  simpa using this

theorem opAppend_sound (hE : EOK P E) {t : TypeId} {s x : SV} {p : Plan} {m : Mem} {κ : Kont α} (h : (opAppend E t s x p m κ).holds L) :
    ∃ v p' m', (κ v p' m').holds L ∧ ∀ (ts : Array TypeId) ty w0 R0 ρ w (sv xv : Value), (∀ e, P.underlying t = some (.slice e) → AppOK P ts t e) → MRel w0 R0 ρ w m → Rep (RO w0 R0 ρ w m) ρ m.next w s sv → Rep (RO w0 R0 ρ w m) ρ m.next w x xv →
      Yields' P m v m' (Builtin.append_ ts ty #[sv, xv]) w0 R0 ρ w := by
  unfold opAppend at h
  split at h
  · rename_i e sz by_ ze ty0 eg he hrow
    have hu := (hE.row _ _ hrow).und
    dsimp only at hu
    split at h
    · rename_i de size bytes ze' u eg' he' hre
      have hok := hE.row _ _ hre
      split at h
      · rename_i hs
        simp only [Bool.and_eq_true, beq_iff_eq, Nat.ble_eq] at hs
        obtain ⟨z, hz1, _, hz3⟩ := run_zero' hok
        have hz3' := hz3 u rfl
        split at h
        · rename_i xs hxs
          split at h
          · -- nil
            obtain ⟨hb, h⟩ := h
            have hb' := of_decide_eq_true hb
            obtain ⟨m', h1, h2⟩ := Mem.push_holds h
            refine ⟨_, p, m', h2, fun ts ty w0 R0 ρ w sv xv ha hm hsv hxv => ?_⟩
            rw [show sv = _ from hsv]
            obtain ⟨vs, k1, k2, k3⟩ := elemsOf_cells (P := P) hxs hm hxv
            rw [← hs.1] at k2
            by_cases h0 : xs.length = 0
            · refine ⟨_, _, (append_room (ha e hu) hu hok k1 (by omega)).trans (by rw [k2]; rfl), ?_⟩
              have hnil : xs = [] := List.eq_nil_of_length_eq_zero h0
              subst hnil
              obtain ⟨g1, g2⟩ := hm.push (w' := w) (r := (0, 0, 0)) h1 rfl rfl rfl (Nat.le_refl _) (fun _ _ => rfl) (fun hsol => absurd hsol (Nat.lt_irrefl _)) (fun R n ρ' e' => ⟨rfl, Nat.le_refl _, fun h0 => absurd h0 (Nat.lt_irrefl _)⟩)
              exact ⟨_, g1, g2, by rw [h1.2]; omega, none, by rw [upd_same]; rfl, fun h0 => by rw [upd_same] at h0; exact absurd h0 (Nat.lt_irrefl _)⟩
            · have hrun := append_grow (ts := ts) (ty := ty) (len := 0) (cap := 0) (base := none) (old := []) (new := vs) (z := z) (ha e hu) hu hok k1 (by omega) hs.2 (by simpa using hb') (by simp [Builtin.firstCells]) (firstCells_drew k2) hz1
              refine ⟨_, _, hrun, ?_⟩
              have := grown_out (l := []) (xs := xs) (old := []) (new := vs) (e := e) (z := z) (cap := 0) hm (by simpa using h1) rfl k3 hz3' fun h => hok.el (.inl (congrArg some h)) (by subst h; simpa [Ty.sz] using hs.1)
              simpa using this
          · -- a row of the call's own
            rename_i id
            split at h
            · rename_i v l hg
              split at h
              · rename_i hv
                subst hv
                obtain ⟨hb, h⟩ := h
                have hb' := of_decide_eq_true hb
                obtain ⟨m1, h1, h2⟩ := Mem.set_holds h
                obtain ⟨m', h3, h4⟩ := Mem.push_holds h2
                refine ⟨_, p, m', h4, fun ts ty w0 R0 ρ w sv xv ha hm hsv hxv => ?_⟩
                obtain ⟨vs, k1, k2, k3⟩ := elemsOf_cells (P := P) hxs hm hxv
                obtain ⟨base, olds, rfl, hbase, o2, o3⟩ := old_cells (P := P) hm hg hsv
                rw [← hs.1] at k2 o2
                obtain ⟨d1, d2⟩ := hm.drop h1
                have hlen1 : m1.next = m.next := h1.2
                by_cases hle : l.length + xs.length ≤ (ρ id).2.2
                · -- in place
                  have hrun := append_room (ty := ty) (base := base) (len := l.length) (cap := (ρ id).2.2) (ha e hu) hu hok k1 hle
                  rw [k2] at hrun
                  rcases Nat.eq_zero_or_pos (ρ id).2.2 with hc0 | hc0
                  · -- no room at all: nothing is appended
                    have hl0 : l = [] := List.eq_nil_of_length_eq_zero (by omega)
                    have hx0 : xs = [] := List.eq_nil_of_length_eq_zero (by omega)
                    subst hl0 hx0
                    have hvs : vs = [] := k3
                    subst hvs
                    have hrun' : (Builtin.append_ ts ty #[.slice base ([] : List v.T).length (ρ id).2.2, xv]).run P w = .ok (.slice base 0 (ρ id).2.2) w := by
                      rw [hrun]
                      cases base <;> rfl
                    refine ⟨_, _, hrun', ?_⟩
                    obtain ⟨g1, g2⟩ := d1.push (w' := w) (r := (0, 0, 0)) h3 rfl rfl rfl (Nat.le_refl _) (fun _ _ => rfl) (fun hsol => absurd hsol (Nat.lt_irrefl _)) (fun R n ρ' e' => ⟨rfl, Nat.le_refl _, fun h0 => absurd h0 (Nat.lt_irrefl _)⟩)
                    exact ⟨_, g1, d2.trans g2, by rw [h3.2]; omega, base, by rw [upd_same, hc0], fun h0 => by rw [upd_same] at h0; exact absurd h0 (Nat.lt_irrefl _)⟩
                  · obtain rfl := hbase hc0
                    obtain ⟨arr, el, fr, q1, q2, q3, q4⟩ := rows_repDL hm hg hc0
                    have hvl := k3.length
                    have hroom : l.length * v.sz + vs.length ≤ arr.size := by
                      rw [q3, hvl, ← Nat.add_mul]; exact Nat.mul_le_mul_right _ hle
                    have hone : ∀ y ∈ vs, y.oneCell' = true := by
                      have : ∀ (ls : List v.T) (us : List Value), RepDL (RO w0 R0 ρ w m) w v ls us → ∀ y ∈ us, y.oneCell' = true := by
                        intro ls
                        induction ls with
                        | nil => intro us h y hy; rw [show us = [] from h] at hy; cases hy
                        | cons a ls ih =>
                          intro us h y hy
                          obtain ⟨v1, v2, rfl, r1, r2⟩ := h
                          rcases List.mem_append.1 hy with hy | hy
                          · obtain ⟨f1, f2⟩ := RepD.flat (ρ := ρ) (n := m.next) v a v1 r1
                            exact repD_one v a v1 r1 y hy
                          · exact ih v2 r2 y hy
                      exact this xs vs k3
                    obtain ⟨w', r1, r2, r3, r4, r5, r6, r7⟩ := run_storeCells' (P := P) (ρ id).1 (l.length * v.sz) el fr vs 0 arr w q1 q2.1 (by omega) hone
                    have hrun' : (Builtin.append_ ts ty #[.slice (some ⟨(ρ id).1, 0, none⟩) l.length (ρ id).2.2, xv]).run P w = .ok (.slice (some ⟨(ρ id).1, 0, none⟩) (l.length + xs.length) (ρ id).2.2) w' := by
                      rw [hrun]
                      simp only [Result.andThen_ok, Addr.add_lit, hs.1, Nat.zero_add, r1]
                    refine ⟨_, _, hrun', ?_⟩
                    rw [Nat.add_zero] at r2
                    -- the old box let go, a new one in its block
                    have hdrop : ∀ k C, m1.get k = some C → k ≠ id ∧ m.get k = some C := fun k C hk => by
                      rw [h1.1 k] at hk
                      by_cases e0 : k = id
                      · rw [if_pos e0] at hk; cases hk
                      · rw [if_neg e0] at hk; exact ⟨e0, hk⟩
                    have hnew : ∀ k C, m'.get k = some C → (k = m.next ∧ C = .rows v (l ++ xs)) ∨ (k ≠ m.next ∧ k ≠ id ∧ m.get k = some C) := fun k C hk => by
                      rw [h3.1 k, hlen1] at hk
                      by_cases e0 : k = m.next
                      · rw [if_pos e0] at hk; injection hk with hk; exact .inl ⟨e0, hk.symm⟩
                      · rw [if_neg e0] at hk; exact .inr ⟨e0, hdrop k C hk⟩
                    have hidlt : id < m.next := hm.lt id _ hg
                    have hsol : solid (ρ id) (.rows v l) := hc0
                    have hblk := hm.hi id _ hg hsol
                    have hblo := hm.lo id _ hg hsol
                    have hro : ∀ b, RO w0 R0 ρ w m b → RO w0 R0 (upd ρ m.next ((ρ id).1, l.length + xs.length, (ρ id).2.2)) w' m' b := fun b hb => by
                      have hne := hm.ro_ne hb hg hsol
                      rcases hb with hb | ⟨g1, g2, g3⟩
                      · exact .inl hb
                      · refine .inr ⟨g1, by omega, fun k C hk hs' => ?_⟩
                        rcases hnew k C hk with ⟨rfl, rfl⟩ | ⟨n1, n2, n3⟩
                        · rw [upd_same]; exact hne
                        · rw [upd_other _ _ n1] at hs' ⊢; exact g3 k C n3 hs'
                    have hext : MExt w0 R0 ρ w m (upd ρ m.next ((ρ id).1, l.length + xs.length, (ρ id).2.2)) w' m' :=
                      ⟨by rw [h3.2]; omega, fun k hk => upd_other _ _ (by omega), fun b hb => ⟨hro b hb, r7 b (Ne.symm (hm.ro_ne hb hg hsol))⟩⟩
                    have harr : (overA arr (l.length * v.sz) vs).toList = (arr.toList.take (l.length * v.sz) ++ vs) ++ arr.toList.drop (l.length * v.sz + vs.length) := by simp [overA]
                    refine ⟨_, ⟨hm.below.trans ⟨r3, r4, r5, by omega, fun k hk => r7 k (by omega)⟩, fun k C hk => ?_, fun k C hk hs' => ?_, fun k C hk hs' => ?_, fun k k' C C' hk hk' hs1 hs2 he0 => ?_, fun k C hk => ?_⟩, hext, by rw [h3.2]; omega, _, by rw [hlen1, upd_same], fun _ => by rw [hlen1, upd_same]⟩
                    · rw [h3.2]
                      rcases hnew k C hk with ⟨rfl, _⟩ | ⟨_, _, n3⟩
                      · omega
                      · have := hm.lt k C n3; omega
                    · rcases hnew k C hk with ⟨rfl, rfl⟩ | ⟨n1, _, n3⟩
                      · rw [upd_same]; exact hblo
                      · rw [upd_other _ _ n1] at hs' ⊢; exact hm.lo k C n3 hs'
                    · rw [r6]
                      rcases hnew k C hk with ⟨rfl, rfl⟩ | ⟨n1, _, n3⟩
                      · rw [upd_same]; exact hblk
                      · rw [upd_other _ _ n1] at hs' ⊢; exact hm.hi k C n3 hs'
                    · rcases hnew k C hk with ⟨rfl, rfl⟩ | ⟨n1, n2, n3⟩ <;> rcases hnew k' C' hk' with ⟨rfl, rfl⟩ | ⟨n1', n2', n3'⟩
                      · rfl
                      · rw [upd_same] at he0; rw [upd_other _ _ n1'] at he0 hs2
                        exact absurd (hm.inj id k' _ C' hg n3' hsol hs2 he0).symm n2'
                      · rw [upd_same] at he0; rw [upd_other _ _ n1] at he0 hs1
                        exact absurd (hm.inj k id C _ n3 hg hs1 hsol he0) n2
                      · rw [upd_other _ _ n1] at he0 hs1; rw [upd_other _ _ n1'] at he0 hs2
                        exact hm.inj k k' C C' n3 n3' hs1 hs2 he0
                    · rcases hnew k C hk with ⟨rfl, rfl⟩ | ⟨n1, n2, n3⟩
                      · rw [upd_same]
                        exact boxRows_of (by simp) (by simpa using hle) r2 ⟨unfrozen_over q2.1 hroom, q2.2⟩ (by rw [overA_size hroom]; exact q3) harr ((RepDL.mono hext.keep q4).append (RepDL.mono hext.keep k3))
                      · rw [upd_other _ _ n1]
                        exact BoxRel.mono hext C (fun hs' => r7 _ fun he0 => n2 (hm.inj k id C _ n3 hg hs' hsol he0)) (hm.box k C n3)
                · -- a new row
                  have hrun := append_grow (ts := ts) (ty := ty) (len := l.length) (cap := (ρ id).2.2) (base := base) (old := olds) (new := vs) (z := z) (ha e hu) hu hok k1 (by omega) hs.2 hb' (firstCells_drew o2) (firstCells_drew k2) hz1
                  refine ⟨_, _, hrun, ?_⟩
                  obtain ⟨ρ', g1, g2, g3⟩ := grown_out (e := e) (z := z) (cap := (ρ id).2.2) d1 h3 (RepDL.mono d2.keep o3) (RepDL.mono d2.keep k3) hz3' fun h => hok.el (.inl (congrArg some h)) (by subst h; simpa [Ty.sz] using hs.1)
                  exact ⟨ρ', g1, d2.trans g2, g3⟩
              · exact h.elim
            · exact h.elim
          · -- an array's slice
            rename_i id off n
            split at h
            · rename_i l hl
              obtain ⟨p', h⟩ := dec_holds h
              cases hxe : xs.isEmpty with
              | true =>
              rw [hxe] at h
              refine ⟨_, p', m, h, fun ts ty w0 R0 ρ w sv xv ha hm hsv hxv => ?_⟩
              have hnil : xs = [] := by simpa using hxe
              subst hnil
              obtain ⟨vs, k1, k2, k3⟩ := elemsOf_cells (P := P) hxs hm hxv
              rw [← hs.1] at k2
              have hvs : vs = [] := k3
              subst hvs
              obtain ⟨hid, rfl⟩ := hsv
              refine Plainly.yields (m := m) ⟨.slice (some ⟨(ρ id).1, off, none⟩) n n, ?_, hid, rfl⟩ hm
              have hrun := append_room (ts := ts) (ty := ty) (base := some ⟨(ρ id).1, off, none⟩) (len := n) (cap := n) (ha e hu) hu hok k1 (Nat.le_refl _)
              rw [hrun, k2]
              rfl
              | false =>
              rw [hxe] at h
              obtain ⟨hb2, h⟩ := h
              have hb : 0 < xs.length ∧ (l.length + xs.length) * bytes ≤ 140737488355328 := ⟨by cases xs with | nil => cases hxe | cons _ _ => simp, by simpa using hb2⟩
              obtain ⟨m', h1, h2⟩ := Mem.push_holds h
              refine ⟨_, p', m', h2, fun ts ty w0 R0 ρ w sv xv ha hm hsv hxv => ?_⟩
              obtain ⟨vs, k1, k2, k3⟩ := elemsOf_cells (P := P) hxs hm hxv
              obtain ⟨olds, o1, o2, o3⟩ := elemsOf_cells (P := P) hl hm hsv
              obtain ⟨_, rfl⟩ := hsv
              rw [← hs.1] at k2 o2
              have hn : n = l.length := by simpa [Builtin.lenOf] using o1
              subst hn
              have hrun := append_grow (ts := ts) (ty := ty) (len := l.length) (cap := l.length) (old := olds) (new := vs) (z := z) (ha e hu) hu hok k1 (by omega) hs.2 hb.2 (firstCells_drew o2) (firstCells_drew k2) hz1
              exact ⟨_, _, hrun, grown_out (e := e) (z := z) (cap := l.length) hm h1 o3 k3 hz3' fun h => hok.el (.inl (congrArg some h)) (by subst h; simpa [Ty.sz] using hs.1)⟩
            · exact h.elim
          · exact h.elim
        · exact h.elim
      · exact h.elim
    · exact h.elim
  · exact h.elim
end
end Go.Sx
