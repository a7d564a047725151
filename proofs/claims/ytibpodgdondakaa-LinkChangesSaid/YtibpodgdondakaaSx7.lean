/-
  Sx7: conversions, slices, append, what is built and made, ranges over strings.
-/
import Derived.Test.YtibpodgdondakaaSx6
set_option linter.unusedSimpArgs false
set_option linter.unusedVariables false
namespace Go.Sx
open Go.RowKit
section
variable {P : Program} {E : Env} {α : Type} {L : α → Prop}

/-- An operation that may turn the world. -/
abbrev Yields' (P : Program) (m : Mem) (v : SV) (m' : Mem) (s : Sem Value) (w0 : World) (R0 : Nat → Prop) (ρ : Rho) (w : World) : Prop :=
  ∃ u w', s.run P w = .ok u w' ∧ OpOut w0 R0 ρ w m v m' u w'

theorem Plainly.yields {m : Mem} {v : SV} {s : Sem Value} {w0 : World} {R0 : Nat → Prop} {ρ : Rho} {w : World} (h : Plainly P m v s w0 R0 ρ w) (hm : MRel w0 R0 ρ w m) : Yields' P m v m s w0 R0 ρ w :=
  let ⟨u, h1, h2⟩ := h
  ⟨u, w, h1, OpOut.same hm h2⟩

/-! ### Where the elements of a slice lie -/

/-- The cells of a source of append. -/
theorem elemsOf_cells {u : Ty} {m : Mem} {x : SV} {xs : List u.T} (h : elemsOf u m x = some xs) {w0 : World} {R0 : Nat → Prop} {ρ : Rho} {w : World} {xv : Value} (hm : MRel w0 R0 ρ w m) (hx : Rep (RO w0 R0 ρ w m) ρ m.next w x xv) :
    ∃ vs, (Builtin.lenOf xv).run P w = .ok xs.length w ∧ (Builtin.firstCells u.sz xs.length xv).run P w = .ok ⟨vs⟩ w ∧ RepDL (RO w0 R0 ρ w m) w u xs vs := by
  have hsz : ∀ (t : Ty) (l : List t.T) (b o : Nat), Elems (RO w0 R0 ρ w m) w t l (fun k => w.cell? ⟨b, o + k, none⟩) → ∃ vs : List Value, (Go.loadCells ⟨b, o, none⟩ (l.length * t.sz)).run P w = .ok ⟨vs⟩ w ∧ RepDL (RO w0 R0 ρ w m) w t l vs := by
    intro t l b o hel
    have hcell : ∀ k, k < l.length * t.sz → ∃ v, w.cell? ⟨b, o + k, none⟩ = some v := by
      intro k hk
      have hpos : 0 < t.sz := by
        rcases Nat.eq_zero_or_pos t.sz with h0 | h0
        · rw [h0] at hk; omega
        · exact h0
      have hdm := Nat.div_add_mod k t.sz
      have hmod := Nat.mod_lt k hpos
      have hi : k / t.sz < l.length := Nat.div_lt_of_lt_mul (by rwa [Nat.mul_comm])
      obtain ⟨cs, c1, c2, _⟩ := hel (k / t.sz) hi
      have := c2 (k % t.sz) hmod
      dsimp only at this
      rw [show k / t.sz * t.sz + k % t.sz = k by rw [Nat.mul_comm]; exact hdm] at this
      rw [this, List.getElem?_eq_getElem (by omega)]
      exact ⟨_, rfl⟩
    obtain ⟨f, hf⟩ : ∃ f : Nat → Value, ∀ k, k < l.length * t.sz → w.cell? ⟨b, o + k, none⟩ = some (f k) :=
      ⟨fun k => if hk : k < l.length * t.sz then (hcell k hk).choose else default, fun k hk => by simp only [hk, dite_true]; exact (hcell k hk).choose_spec⟩
    refine ⟨(List.range (l.length * t.sz)).map f, run_loadCells w ⟨b, o, none⟩ _ f (fun j hj => by rw [Addr.add_lit]; exact hf j hj), Elems.repDL (by simp) fun i hi => ?_⟩
    obtain ⟨cs, c1, c2, c3⟩ := hel i hi
    refine ⟨cs, c1, fun j hj => ?_, c3⟩
    have : i * t.sz + j < l.length * t.sz := by
      have : (i + 1) * t.sz ≤ l.length * t.sz := Nat.mul_le_mul_right _ hi
      rw [Nat.succ_mul] at this; omega
    rw [← c2 j hj]
    dsimp only
    rw [hf _ this]
    simp [this]
  cases x <;> simp only [elemsOf] at h <;> try (cases h; done)
  case nilS =>
    injection h with h
    subst h
    rw [show xv = _ from hx]
    exact ⟨[], rfl, by simp [Builtin.firstCells], rfl⟩
  case list t l =>
    split at h
    · rename_i ht
      injection h with h
      subst ht
      dsimp only at h
      subst h
      obtain ⟨a, cap, hxv, hc, hel⟩ := hx
      injection hxv with hxv
      subst hxv
      rcases Nat.eq_zero_or_pos (List.length l) with h0 | h0
      · have : l = [] := List.eq_nil_of_length_eq_zero h0
        subst this
        refine ⟨[], rfl, ?_, rfl⟩
        cases a <;> simp [Builtin.firstCells, Go.loadCells, loadCellsFrom]
      · obtain ⟨b, o, rfl, hR, hall⟩ := hel h0
        obtain ⟨vs, h1, h2⟩ := hsz t l b o (fun i hi => hall i hi)
        exact ⟨vs, rfl, h1, h2⟩
    · cases h
  case row id =>
    split at h
    · rename_i t l hg
      split at h
      · rename_i ht
        injection h with h
        subst ht
        dsimp only at h
        subst h
        obtain ⟨hid, a, rfl, ha⟩ := hx
        obtain ⟨b1, b2, hp⟩ := hm.box id _ hg
        rcases Nat.eq_zero_or_pos (ρ id).2.2 with h0 | h0
        · have hl : l = [] := List.eq_nil_of_length_eq_zero (by omega)
          subst hl
          refine ⟨[], by rw [← b1]; rfl, ?_, rfl⟩
          cases a <;> simp [Builtin.firstCells, Go.loadCells, loadCellsFrom]
        · obtain rfl := ha h0
          obtain ⟨arr, e, fr, h1, h2, h3, h4⟩ := hp h0
          obtain ⟨vs, k1, k2⟩ := hsz t l (ρ id).1 0 (fun i hi => by
            obtain ⟨cs, c1, c2, c3⟩ := h4 i hi
            exact ⟨cs, c1, fun j hj => by dsimp only; rw [Nat.zero_add, cell_of_row w _ _ arr e fr h1]; exact c2 j hj, c3⟩)
          exact ⟨vs, by rw [← b1]; rfl, k1, k2⟩
      · cases h
    · cases h
  case arr id off n =>
    split at h
    · rename_i cs hg
      obtain ⟨hid, rfl⟩ := hx
      obtain ⟨arr, e, fr, h1, h2, h3⟩ := hm.box id _ hg
      have hr := (h3.drop off).take (n * u.sz)
      obtain ⟨hd, hl⟩ := unflatN_repDL h hr
      have hlen := hd.length
      rw [hl] at hlen ⊢
      refine ⟨(arr.toList.drop off).take (n * u.sz), rfl, ?_, hd⟩
      have := run_loadCells_list (P := P) w ⟨(ρ id).1, off, none⟩ ((arr.toList.drop off).take (n * u.sz)) (fun j v hj => by
        rw [Addr.add_lit, cell_of_row w _ _ arr e fr h1]
        have hjl : j < n * u.sz := by have := (List.getElem?_eq_some_iff.1 hj).1; omega
        rw [List.getElem?_take, if_pos hjl, List.getElem?_drop] at hj
        simpa using hj)
      rw [hlen] at this
      exact this
    · cases h
  case str s =>
    split at h
    · rename_i ht
      injection h with h
      subst ht
      dsimp only at h
      subst h
      rw [show xv = _ from hx]
      have hl : List.length (List.map (fun b : UInt8 => (b.toNat : Int)) s) = s.length := List.length_map _
      refine ⟨_, ?_, ?_, bytes_repDL s⟩
      · show Result.ok s.length w = Result.ok (List.length (List.map (fun b : UInt8 => (b.toNat : Int)) s)) w
        rw [hl]
      · show (Builtin.firstCells 1 (List.length (List.map (fun b : UInt8 => (b.toNat : Int)) s)) _).run P w = _
        rw [hl]
        simp only [Builtin.firstCells, Sem.run_pure, Result.ok.injEq, and_true]
        apply Array.ext'
        simp [Lib.extract_data]
    · cases h
  case raw v =>
    split at h
    · rename_i a cap
      injection h with h
      subst h
      rw [show xv = _ from hx]
      refine ⟨[], rfl, ?_, rfl⟩
      cases a with
      | none => simp [Builtin.firstCells, Go.loadCells]
      | some a =>
        simp [Builtin.firstCells, Go.loadCells]
        rfl
    · cases h

theorem bytesOf_cells {m : Mem} {x : SV} {s : List UInt8} (h : bytesOf m x = some s) {w0 : World} {R0 : Nat → Prop} {ρ : Rho} {w : World} {xv : Value} (hm : MRel w0 R0 ρ w m) (hx : Rep (RO w0 R0 ρ w m) ρ m.next w x xv) :
    (∃ a l c, xv = .slice a l c) ∧ (Conv.bytesToString xv).run P w = .ok (.string ⟨⟨s⟩⟩) w := by
  have key : ∀ (l : List Int) (vs : List Value), RepDL (RO w0 R0 ρ w m) w (.int .u8) l vs → vs = l.map (Value.int .u8) := by
    intro l
    induction l with
    | nil => intro vs h; exact h
    | cons n l ih =>
      intro vs h
      obtain ⟨v1, v2, rfl, h1, h2⟩ := h
      rw [show v1 = _ from h1, ih v2 h2]; rfl
  have fin : ∀ (ns : List Int) (a : Addr) (len cap : Nat) (vs : List Value), (Go.loadCells a len).run P w = .ok ⟨vs⟩ w → vs = ns.map (Value.int .u8) → (Conv.bytesToString (.slice (some a) len cap)).run P w = .ok (.string ⟨⟨ns.map fun n => UInt8.ofNat n.toNat⟩⟩) w := by
    intro ns a len cap vs h1 h2
    subst h2
    rw [run_bytesToString w a len cap ns h1, foldl_push_bytes]
    simp [ByteArray.empty, ByteArray.emptyWithCapacity]
    rfl
  cases x <;> simp only [bytesOf] at h <;> try (cases h; done)
  case nilS =>
    injection h with h
    subst h
    rw [show xv = _ from hx]
    exact ⟨⟨_, _, _, rfl⟩, rfl⟩
  case list t l =>
    cases t <;> try (cases h; done)
    case int k =>
      cases k <;> try (cases h; done)
      case u8 =>
        injection h with h
        have he : elemsOf (.int .u8) m (.list (.int .u8) l) = some l := by simp [elemsOf]
        obtain ⟨vs, h1, h2, h3⟩ := elemsOf_cells (P := P) he hm hx
        obtain ⟨a, cap, hxv, hc, hel⟩ := hx
        injection hxv with hxv
        subst hxv
        refine ⟨⟨_, _, _, rfl⟩, ?_⟩
        cases a with
        | none =>
          have : List.length (l : List Int) = 0 := by
            rcases Nat.eq_zero_or_pos (List.length (l : List Int)) with h0 | h0
            · exact h0
            · obtain ⟨b, o, hb, _⟩ := hel h0; cases hb
          have : (l : List Int) = [] := List.eq_nil_of_length_eq_zero this
          rw [← h, this]; rfl
        | some a =>
          rw [← h]
          exact fin _ _ _ _ _ (by simpa [Builtin.firstCells, Ty.sz] using h2) (key _ _ h3)
  case row id =>
    split at h
    · rename_i l hg
      injection h with h
      have he : elemsOf (.int .u8) m (.row id) = some l := by simp [elemsOf, hg]
      obtain ⟨vs, h1, h2, h3⟩ := elemsOf_cells (P := P) he hm hx
      obtain ⟨hid, a, rfl, ha⟩ := hx
      obtain ⟨b1, b2, hp⟩ := hm.box id _ hg
      refine ⟨⟨_, _, _, rfl⟩, ?_⟩
      cases a with
      | none =>
        have hc : ¬ 0 < (ρ id).2.2 := fun hc => by have := ha hc; cases this
        have : (l : List Int) = [] := List.eq_nil_of_length_eq_zero (by omega)
        rw [← h, this]; rfl
      | some a =>
        rw [← h]
        refine fin _ _ _ _ _ (by rw [← b1]; simpa [Builtin.firstCells, Ty.sz] using h2) (key _ _ h3)
    · cases h
  case arr id off n =>
    split at h
    · rename_i cs hg
      split at h
      · rename_i l hl
        injection h with h
        have he : elemsOf (.int .u8) m (.arr id off n) = some l := by simp only [elemsOf, hg]; exact hl
        have hln : List.length (l : List Int) = n := by
          obtain ⟨arr, e, fr, h1, h2, h3⟩ := hm.box id _ hg
          exact (unflatN_repDL hl ((h3.drop off).take (n * (Ty.int .u8).sz))).2
        obtain ⟨vs, h1, h2, h3⟩ := elemsOf_cells (P := P) he hm hx
        obtain ⟨hid, rfl⟩ := hx
        refine ⟨⟨_, _, _, rfl⟩, ?_⟩
        rw [← h]
        refine fin _ _ _ _ _ (by rw [← hln]; simpa [Builtin.firstCells, Ty.sz] using h2) (key _ _ h3)
      · cases h
    · cases h

/-- A new block of rows. -/
theorem push_rows {w0 : World} {R0 : Nat → Prop} {ρ : Rho} {w w1 : World} {m m' : Mem} {u : Ty} {l : List u.T} {arr : Array Value} {e : TypeId} {fr : Nat × Nat} {vs rest : List Value} {cap : Nat} (hm : MRel w0 R0 ρ w m) (hp : MPush m (.rows u l) m')
    (hos : w1.os = w.os) (ht : w1.tape = w.tape) (hpu : w1.output = w.output) (hsz : w1.heap.size = w.heap.size + 1) (hold : ∀ k, k < w.heap.size → w1.heap[k]? = w.heap[k]?) (hnew : w1.heap[w.heap.size]? = some (.cells arr e fr))
    (hu : unfrozen arr fr) (ha : arr.size = cap * u.sz) (hl : l.length ≤ cap) (hv : arr.toList = vs ++ rest) (hd : RepDL (RO w0 R0 ρ w m) w u l vs) :
    OpOut w0 R0 ρ w m (.row m.next) m' (.slice (some ⟨w.heap.size, 0, none⟩) l.length cap) w1 := by
  obtain ⟨h1, h2⟩ := hm.push (w' := w1) (r := (w.heap.size, l.length, cap)) hp hos ht hpu (by omega) hold (fun _ => ⟨Nat.le_refl _, by show w.heap.size < _; omega⟩)
    (fun R n ρ' e' => boxRows_of rfl hl hnew hu ha hv (RepDL.mono e'.keep hd))
  refine ⟨_, h1, h2, by rw [hp.2]; omega, _, by rw [upd_same], fun _ => by rw [upd_same]⟩

theorem opConv_sound (hE : EOK P E) {src dst : TypeId} {x : SV} {p : Plan} {m : Mem} {κ : Kont α} (h : (opConv E src dst x p m κ).holds L) :
    ∃ v m', (κ v p m').holds L ∧ ((∀ r e, E.row dst = some r → r.desc ≠ .slice e) → m' = m) ∧ ∀ w0 R0 ρ w (xv : Value), MRel w0 R0 ρ w m → Rep (RO w0 R0 ρ w m) ρ m.next w x xv → Yields' P m v m' (Go.convert src dst xv) w0 R0 ρ w := by
  unfold opConv at h
  split at h
  · rename_i rs rd hs hd
    have hus := (hE.row _ _ hs).und
    have hud := (hE.row _ _ hd).und
    split at h
    · rename_i k k' n hdd
      rw [hdd] at hud
      refine ⟨_, m, h, fun _ => rfl, fun w0 R0 ρ w xv hm hx => Plainly.yields ⟨_, ?_, rfl⟩ hm⟩
      rw [show xv = _ from hx]
      simp only [Go.convert, Sem.run_bind, run_underlying hus, run_underlying hud, Result.andThen_ok, Conv.intToInt, Sem.run_pure]
    · rename_i s hdd
      rw [hdd] at hud
      refine ⟨_, m, h, fun _ => rfl, fun w0 R0 ρ w xv hm hx => Plainly.yields ⟨_, ?_, rfl⟩ hm⟩
      rw [show xv = _ from hx]
      simp only [Go.convert, Sem.run_bind, run_underlying hus, run_underlying hud, Result.andThen_ok, Sem.run_pure]
    · rename_i e s hss hdd
      rw [hss] at hus
      rw [hdd] at hud
      split at h
      · rename_i sz by_ ze ty eg he hrow
        have hue := (hE.row _ _ hrow).und
        dsimp only at hue
        obtain ⟨m', h1, h2⟩ := Mem.push_holds h
        refine ⟨_, m', h2, fun hne => absurd hdd (hne _ _ hd), fun w0 R0 ρ w xv hm hx => ?_⟩
        rw [show xv = _ from hx]
        have hl : List.length (List.map (fun b : UInt8 => (b.toNat : Int)) s) = s.length := List.length_map _
        refine ⟨_, _, Lib.run_convert_string_bytes w src dst e ⟨⟨s⟩⟩ hus hud hue, ?_⟩
        have hcap : s.length ≤ grownCap w s.length 0 e := Nat.le_add_right _ _
        have key := push_rows (w1 := Lib.bytesWorld w e ⟨⟨s⟩⟩) (u := .int .u8) (l := List.map (fun b : UInt8 => (b.toNat : Int)) s) (cap := grownCap w s.length 0 e) (arr := Lib.bytesCells w e ⟨⟨s⟩⟩) (rest := (Array.replicate (grownCap w s.length 0 e - s.length) (.int .u8 0)).toList) hm h1 rfl rfl rfl (Lib.bytesWorld_size w e _) (fun k hk => Lib.bytesWorld_at_old w e _ k hk) (Lib.bytesWorld_at_new w e _)
          (fun i hi hh => by have := hh.1; dsimp only at this; omega) (by simp [Lib.bytesCells, Ty.sz, ByteArray.size]; omega) (by show List.length (List.map (fun b : UInt8 => (b.toNat : Int)) s) ≤ _; rw [hl]; exact hcap) (vs := s.map fun b => Value.int .u8 b.toNat)
          (by simp only [Lib.bytesCells, Array.toList_append, Array.toList_map]; rfl) (bytes_repDL s)
        have e2 : (Value.slice (some ⟨w.heap.size, 0, none⟩) (List.length (List.map (fun b : UInt8 => (b.toNat : Int)) s)) (grownCap w s.length 0 e)) = .slice (some ⟨w.heap.size, 0, none⟩) s.length (grownCap w s.length 0 e) := by rw [hl]
        exact e2 ▸ key
      · exact h.elim
    · rename_i e hss hdd _
      rw [hss] at hus
      rw [hdd] at hud
      split at h
      · rename_i sz by_ ze ty eg he hrow
        have hue := (hE.row _ _ hrow).und
        dsimp only at hue
        split at h
        · rename_i s hb
          refine ⟨_, m, h, fun _ => rfl, fun w0 R0 ρ w xv hm hx => Plainly.yields ⟨.string ⟨⟨s⟩⟩, ?_, rfl⟩ hm⟩
          obtain ⟨⟨a, l, c, rfl⟩, hrun⟩ := bytesOf_cells (P := P) hb hm hx
          rw [run_convert_bytes_string w src dst e a l c hus hue hud, hrun]
        · exact h.elim
      · exact h.elim
    · exact h.elim
  · exact h.elim
end
end Go.Sx
