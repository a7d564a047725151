/-
  Sx8: parts of tuples, slices of strings and lists, append, lengths, what is built and made, ranges over strings.
-/
import Derived.Test.YtibpodgdondakaaSx7
set_option linter.unusedSimpArgs false
set_option linter.unusedVariables false
namespace Go.Sx
open Go.RowKit
section
variable {P : Program} {E : Env} {α : Type} {L : α → Prop}

theorem opExtract_sound {x : SV} {i : Nat} {p : Plan} {m : Mem} {κ : Kont α} (h : (opExtract x i p m κ).holds L) :
    ∃ v, (κ v p m).holds L ∧ ∀ (m : Mem) w0 R0 ρ w (xv : Value), Rep (RO w0 R0 ρ w m) ρ m.next w x xv → Plainly P m v (Instr.extract xv i) w0 R0 ρ w := by
  unfold opExtract at h
  split at h
  · rename_i vs
    split at h
    · rename_i v hv
      rw [nth_eq] at hv
      rw [frc_eq] at h
      refine ⟨v, h, fun m w0 R0 ρ w xv hx => ?_⟩
      obtain ⟨us, rfl, hus⟩ := hx
      obtain ⟨u, h1, h2⟩ := hus.get hv
      refine ⟨u, ?_, h2⟩
      have : (⟨us⟩ : Array Value)[i]? = some u := by simpa using h1
      simp only [Instr.extract, this, Sem.run_pure]
    · exact h.elim
  · exact h.elim

/-! ### Slices -/

theorem sliceBound_ok {k : IntKind} {i : Int} {y : Nat} {code : BoundsCode} (h : 0 ≤ i ∧ i ≤ y) (w : World) : (Instr.sliceBound (.int k i) y code).run P w = .ok i.toNat w := by
  simp only [Instr.sliceBound, asIntOf, Sem.run_bind, Sem.run_pure, Result.andThen_ok, if_pos h]

abbrev OptRep (R : Nat → Prop) (ρ : Rho) (n : Nat) (w : World) (x : Option SV) (v : Option Value) : Prop :=
  match x, v with
  | some x, some v => Rep R ρ n w x v
  | none, none => True
  | _, _ => False

/-- The bounds of a slice expression without a third. -/
theorem cut_bounds {γ : Type} {l : List γ} {lo hi : Option SV} {bl : Bool × List γ} (h : cut l lo hi = some bl) (hb : bl.1 = true) (isSlice : Bool) (cap : Nat) (hcap : l.length ≤ cap) (hs : isSlice = false → cap = l.length) {R : Nat → Prop} {ρ : Rho} {n : Nat} {w : World} {lv hv : Option Value}
    (hl : OptRep R ρ n w lo lv) (hh : OptRep R ρ n w hi hv) :
    ∃ a b, (Instr.sliceBounds isSlice l.length cap lv hv none).run P w = .ok (a, b, cap) w ∧ a ≤ b ∧ b ≤ l.length ∧ bl.2 = (l.take b).drop a := by
  unfold cut at h
  split at h
  · injection h with h; subst h
    cases lv <;> cases hv <;> simp [OptRep] at hl hh
    exact ⟨0, l.length, by simp [Instr.sliceBounds], Nat.zero_le _, Nat.le_refl _, by simp⟩
  · rename_i k a
    injection h with h; subst h
    simp only [Bool.and_eq_true, decide_eq_true_eq] at hb
    cases lv with
    | none => exact hl.elim
    | some v =>
      cases hv <;> simp [OptRep] at hh
      obtain rfl : v = _ := hl
      refine ⟨a.toNat, l.length, ?_, by omega, Nat.le_refl _, by simp⟩
      simp [Instr.sliceBounds, sliceBound_ok (P := P) (k := k) (i := a) (y := l.length) (code := .sliceB) hb w]
  · rename_i k b
    injection h with h; subst h
    simp only [Bool.and_eq_true, decide_eq_true_eq] at hb
    cases hv with
    | none => exact hh.elim
    | some v =>
      cases lv <;> simp [OptRep] at hl
      obtain rfl : v = _ := hh
      refine ⟨0, b.toNat, ?_, by omega, by omega, by simp⟩
      cases isSlice <;> simp [Instr.sliceBounds, sliceBound_ok (P := P) (k := k) (i := b) (y := cap) (code := .sliceAcap) (by omega) w, sliceBound_ok (P := P) (k := k) (i := b) (y := cap) (code := .sliceAlen) (by omega) w]
  · rename_i k a k' b
    injection h with h; subst h
    simp only [Bool.and_eq_true, decide_eq_true_eq] at hb
    cases lv with
    | none => exact hl.elim
    | some v =>
      cases hv with
      | none => exact hh.elim
      | some u =>
        obtain rfl : v = _ := hl
        obtain rfl : u = _ := hh
        obtain ⟨⟨⟨h1, h2⟩, h3⟩, h4⟩ := hb
        have hb2 : a ≤ ((b.toNat : Nat) : Int) := by omega
        refine ⟨a.toNat, b.toNat, ?_, by omega, by omega, by simp⟩
        cases isSlice <;> simp [Instr.sliceBounds, sliceBound_ok (P := P) (k := k') (i := b) (y := cap) (code := .sliceAcap) (by omega) w, sliceBound_ok (P := P) (k := k') (i := b) (y := cap) (code := .sliceAlen) (by omega) w,
          sliceBound_ok (P := P) (k := k) (i := a) (y := b.toNat) (code := .sliceB) ⟨h3, hb2⟩ w]
  · cases h

theorem elems_cut {R : Nat → Prop} {w : World} {u : Ty} {l : List u.T} {b o a e : Nat} (h : ∀ i (h : i < List.length l), ∃ cs : List Value, cs.length = u.sz ∧ (∀ j, j < u.sz → w.cell? ⟨b, o + (i * u.sz + j), none⟩ = cs[j]?) ∧ RepD R w u (List.get l ⟨i, h⟩) cs) :
    ∀ i (h : i < List.length ((l.take e).drop a)), ∃ cs : List Value, cs.length = u.sz ∧ (∀ j, j < u.sz → w.cell? ⟨b, (o + a * u.sz) + (i * u.sz + j), none⟩ = cs[j]?) ∧ RepD R w u (List.get ((l.take e).drop a) ⟨i, h⟩) cs := by
  intro i hi
  have hi' : a + i < l.length := by rw [List.length_drop, List.length_take] at hi; omega
  obtain ⟨cs, h1, h2, h3⟩ := h (a + i) hi'
  refine ⟨cs, h1, fun j hj => ?_, ?_⟩
  · rw [← h2 j hj]
    congr 2
    rw [Nat.add_mul]; omega
  · have : List.get ((l.take e).drop a) ⟨i, hi⟩ = List.get l ⟨a + i, hi'⟩ := by simp
    rw [this]; exact h3

theorem opSlice_sound (hE : EOK P E) {t : TypeId} {x : SV} {lo hi mx : Option SV} {p : Plan} {m : Mem} {κ : Kont α} (h : (opSlice E t x lo hi mx p m κ).holds L) :
    ∃ v m', (κ v p m').holds L ∧ (mx = none → m' = m) ∧ ∀ w0 R0 ρ w (xv : Value) (lv hv mv : Option Value), MRel w0 R0 ρ w m → Rep (RO w0 R0 ρ w m) ρ m.next w x xv → OptRep (RO w0 R0 ρ w m) ρ m.next w lo lv → OptRep (RO w0 R0 ρ w m) ρ m.next w hi hv → OptRep (RO w0 R0 ρ w m) ρ m.next w mx mv →
      Yields' P m v m' (Instr.sliceAt t xv lv hv mv) w0 R0 ρ w := by
  unfold opSlice at h
  split at h
  · rename_i r hr
    have hu := (hE.row _ _ hr).und
    split at h
    · -- a string
      rename_i s hd
      rw [hd] at hu
      split at h
      · rename_i bl hbl
        obtain ⟨hb, h⟩ := h
        refine ⟨_, m, h, fun _ => rfl, fun w0 R0 ρ w xv lv hv mv hm hx hl hh hmx => Plainly.yields ⟨.string ⟨⟨bl.2⟩⟩, ?_, rfl⟩ hm⟩
        rw [show xv = _ from hx]
        cases mv with
        | some _ => exact hmx.elim
        | none =>
          obtain ⟨a, b, h1, h2, h3, h4⟩ := cut_bounds (P := P) hbl hb false s.length (Nat.le_refl _) (fun _ => rfl) hl hh
          have hsz : (ByteArray.mk ⟨s⟩).size = s.length := rfl
          simp only [Instr.sliceAt, Instr.slice, Sem.run_bind, run_underlying hu, Result.andThen_ok, Option.isSome_none, Bool.false_eq_true, if_false, hsz, Sem.run_pure, h1, Result.ok.injEq, and_true, Value.string.injEq]
          rw [Lib.extract_eq, h4, List.drop_take]
      · exact h.elim
    · -- a slice
      rename_i e u xs hd
      rw [hd] at hu
      split at h
      · rename_i re hre
        have hok := hE.row _ _ hre
        split at h
        · rename_i hs
          have hs' : re.size = u.sz := by simpa using hs
          split at h
          · rename_i bl hbl
            obtain ⟨hb, h⟩ := h
            refine ⟨_, m, h, fun _ => rfl, fun w0 R0 ρ w xv lv hv mv hm hx hl hh hmx => ?_⟩
            cases mv with
            | some _ => exact hmx.elim
            | none =>
              obtain ⟨A, cap, hxv, hc, hel⟩ := hx
              injection hxv with hxv
              subst hxv
              obtain ⟨a, b, h1, h2, h3, h4⟩ := cut_bounds (P := P) hbl hb true cap hc (fun h => by cases h) hl hh
              refine Plainly.yields ⟨.slice (if cap = a then A else A.map (·.add (a * u.sz))) (b - a) (cap - a), ?_, ?_⟩ hm
              · simp only [Instr.sliceAt, Instr.slice, Sem.run_bind, run_underlying hu, Result.andThen_ok, h1, run_sizeOf' hok, hs', Sem.run_pure]
              · have hlen : List.length bl.2 = b - a := by rw [h4, List.length_drop, List.length_take, Nat.min_eq_left h3]
                refine ⟨_, cap - a, by rw [hlen], by rw [hlen]; omega, fun hp => ?_⟩
                obtain ⟨B, o, rfl, hR, hall⟩ := hel (by omega)
                rw [if_neg (by omega)]
                refine ⟨B, o + a * u.sz, by simp [Addr.add_lit], hR, ?_⟩
                have := elems_cut (a := a) (e := b) hall
                rw [← h4] at this
                exact this
          · exact h.elim
        · exact h.elim
      · exact h.elim
    · -- a whole array behind a pointer
      rename_i n e id off hd
      rw [hd] at hu
      split at h
      · rename_i re hre
        have hok := hE.row _ _ hre
        refine ⟨_, m, h, fun _ => rfl, fun w0 R0 ρ w xv lv hv mv hm hx hl hh hmx => ?_⟩
        cases lv <;> cases hv <;> cases mv <;> first | exact hl.elim | exact hh.elim | exact hmx.elim | skip
        obtain ⟨hid, rfl⟩ := hx
        refine Plainly.yields ⟨.slice (some ⟨(ρ id).1, off, none⟩) n n, ?_, hid, rfl⟩ hm
        simp [Instr.sliceAt, run_underlying hu, Instr.sureAddr, Instr.sliceBounds, run_sizeOf' hok, Addr.add]
      · exact h.elim
    · exact h.elim
  · rename_i r mx' hr
    have hu := (hE.row _ _ hr).und
    split at h
    · rename_i e k h' k' c hd
      rw [hd] at hu
      split at h
      · rename_i de sz by_ ze u eg he hre
        have hok := hE.row _ _ hre
        split at h
        · rename_i hs
          simp only [Bool.and_eq_true, beq_iff_eq] at hs
          obtain ⟨hb, h⟩ := h
          simp only [Bool.and_eq_true, beq_iff_eq] at hb
          obtain ⟨m', h1, h2⟩ := Mem.push_holds h
          refine ⟨_, m', h2, fun hn => (by cases hn), fun w0 R0 ρ w xv lv hv mv hm hx hl hh hmx => ?_⟩
          cases lv with
          | some _ => exact hl.elim
          | none =>
            cases hv with
            | none => exact hh.elim
            | some hv =>
              cases mv with
              | none => exact hmx.elim
              | some mv =>
                have hform : ∃ A len cap, xv = .slice A len cap := by
                  cases x <;> simp only [emptyOk] at hs <;> try (cases hs.2; done)
                  · exact ⟨_, _, _, hx⟩
                  · obtain ⟨A, cap, hxv, _⟩ := hx
                    injection hxv with hxv
                    exact ⟨_, _, _, hxv⟩
                  · obtain ⟨_, A, hxv, _⟩ := hx
                    exact ⟨_, _, _, hxv⟩
                obtain ⟨A, len, cap, rfl⟩ := hform
                obtain rfl : hv = _ := hh
                obtain rfl : mv = _ := hmx
                rw [hb.1, hb.2]
                refine ⟨.slice A 0 0, w, ?_, ?_⟩
                · have hz : ∀ (k : IntKind) (y : Nat) (code : BoundsCode), (Instr.sliceBound (.int k 0) y code).run P w = .ok 0 w := fun k y code => sliceBound_ok (P := P) (k := k) (i := 0) (by omega) w
                  simp [Instr.sliceAt, Instr.slice, run_underlying hu, Instr.sliceBounds, hz, run_sizeOf' hok]
                · obtain ⟨g1, g2⟩ := hm.push (w' := w) (r := (0, 0, 0)) h1 rfl rfl rfl (Nat.le_refl _) (fun _ _ => rfl) (fun hsol => absurd hsol (Nat.lt_irrefl _)) (fun R n ρ' e' => ⟨rfl, Nat.le_refl _, fun h0 => absurd h0 (Nat.lt_irrefl _)⟩)
                  exact ⟨_, g1, g2, by rw [h1.2]; omega, A, by rw [upd_same], fun h0 => by rw [upd_same] at h0; exact absurd h0 (Nat.lt_irrefl _)⟩
        · exact h.elim
      · exact h.elim
    · exact h.elim
  · exact h.elim
end
end Go.Sx
