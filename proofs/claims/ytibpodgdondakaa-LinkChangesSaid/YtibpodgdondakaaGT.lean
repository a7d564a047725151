/-
  GT: a text that is sealed and of which one byte is changed is not accepted.
-/
import Derived.Test.YtibpodgdondakaaGR
set_option linter.unusedSimpArgs false
set_option linter.unusedVariables false
set_option maxRecDepth 100000
namespace Go.Proofs.Ytibpodgdondakaa
open Go.Sx

def chg (s : List UInt8) (k c : Int) : List UInt8 := s.set k.toNat (s.getD k.toNat 0 ^^^ UInt8.ofNat c.toNat)

theorem xor_back (a c : UInt8) : a ^^^ (a ^^^ c) = c := by rw [← UInt8.xor_assoc, UInt8.xor_self, UInt8.zero_xor]
theorem xor_ne {a c : UInt8} (h : c ≠ 0) : a ^^^ c ≠ a := fun e => h (by have := xor_back a c; rw [e, UInt8.xor_self] at this; exact this.symm)
theorem xorL_ini : ∀ (l : List UInt8) (a c : UInt8), xorL (a ^^^ c) l = xorL a l ^^^ c
  | [], _, _ => rfl
  | b :: l, a, c => by
    show xorL (a ^^^ c ^^^ b) l = xorL (a ^^^ b) l ^^^ c
    rw [show a ^^^ c ^^^ b = (a ^^^ b) ^^^ c by rw [UInt8.xor_assoc, UInt8.xor_comm c b, ← UInt8.xor_assoc], xorL_ini l]
theorem xorL_set (c : UInt8) : ∀ (l : List UInt8) (a : UInt8) (k : Nat), k < l.length → xorL a (l.set k (l.getD k 0 ^^^ c)) = xorL a l ^^^ c
  | [], _, _, h => absurd h (Nat.not_lt_zero _)
  | b :: l, a, 0, _ => by
    show xorL (a ^^^ (b ^^^ c)) l = xorL (a ^^^ b) l ^^^ c
    rw [← UInt8.xor_assoc, xorL_ini]
  | b :: l, a, k + 1, h => by
    show xorL (a ^^^ b) (l.set k (l.getD k 0 ^^^ c)) = xorL (a ^^^ b) l ^^^ c
    exact xorL_set c l (a ^^^ b) k (by simpa using h)
theorem xr_set {c : UInt8} (hc : c ≠ 0) {l : List UInt8} {k : Nat} (h : k < l.length) : xr (l.set k (l.getD k 0 ^^^ c)) ≠ xr l := by
  unfold xr
  rw [xorL_set c l 0 k h]
  intro e
  have : xorL 0 l ^^^ c = xorL 0 l := UInt8.toNat_inj.1 (by omega)
  exact xor_ne hc this

theorem ix_none {c : UInt8} : ∀ {s : List UInt8}, (∀ a ∈ s, a ≠ c) → ix s c = -1
  | [], _ => rfl
  | a :: s, h => by rw [ix_cons, if_neg (h a List.mem_cons_self), ix_none fun b hb => h b (List.mem_cons_of_mem _ hb), if_pos rfl]
theorem num_digs {M : Int} {t : List UInt8} (hM : 0 ≤ M) (h : numO M t = true) : numV M t = some (numN M t) ∧ ∀ b ∈ t, 48 ≤ (b.toNat : Int) ∧ (b.toNat : Int) ≤ 57 := by
  unfold numO at h; unfold numN
  cases hv : numV M t with
  | none => rw [hv] at h; cases h
  | some v =>
    refine ⟨rfl, fun b hb => ?_⟩
    have := ((numV_eq hM t v).1 hv).2.2.1
    simp only [digs, List.all_eq_true] at this
    exact isDig_iff.1 (this b hb)

/-- One byte of a sealed text is changed: its checksum is none, or is not that of what stands before. -/
theorem sealed_changed {F : List UInt8} (no42 : ∀ a ∈ F, a ≠ 42) {k : Nat} {c : UInt8} (hc : c ≠ 0) (hk : k < (F ++ [42] ++ fmt (xr F)).length) {s : List UInt8} (hs : s = (F ++ [42] ++ fmt (xr F)).set k ((F ++ [42] ++ fmt (xr F)).getD k 0 ^^^ c)) : ¬ (cO s = true ∧ cN s = xr (hd s)) := by
  rintro ⟨hO, hN⟩
  have xrr := xr_range F
  have fb := fmt_bytes (n := xr F) xrr.1 (by omega)
  have b42 : ((42 : UInt8).toNat : Int) = 42 := rfl
  simp only [cO, Bool.and_eq_true] at hO
  obtain ⟨hC, hO⟩ := hO
  have hcN : cN s = numN 255 (cutB s 42) := by unfold cN; rw [hC, if_pos rfl]
  have hhd : hd s = cutA s 42 := by unfold hd; rw [hC, if_pos rfl]
  obtain ⟨hv, hdig⟩ := num_digs (by omega) hO
  obtain ⟨d1, d2, d3⟩ := numV_canon (by omega) (by omega) hv
  rw [hcN, hhd] at hN
  rcases Nat.lt_trichotomy k F.length with h | h | h
  · -- within the body
    have hg : (F ++ [42] ++ fmt (xr F)).getD k 0 = F.getD k 0 := by
      rw [List.getD_eq_getElem?_getD, List.getD_eq_getElem?_getD, List.append_assoc, List.getElem?_append_left h]
    rw [hg, List.append_assoc, List.set_append_left _ _ h] at hs
    by_cases hb : F.getD k 0 ^^^ c = 42
    · -- a new asterisk
      have e : s = F.take k ++ 42 :: (F.drop (k + 1) ++ ([42] ++ fmt (xr F))) := by
        rw [hs, hb, List.set_eq_take_append_cons_drop, if_pos h]; simp
      obtain ⟨_, _, e3⟩ := cut_first (c := 42) (x := F.take k) (r := F.drop (k + 1) ++ ([42] ++ fmt (xr F))) fun a ha => no42 a (List.mem_of_mem_take ha)
      rw [e, e3] at hdig
      have := hdig 42 (by simp)
      omega
    · have no' : ∀ a ∈ F.set k (F.getD k 0 ^^^ c), a ≠ 42 := fun a ha => by
        rcases List.mem_or_eq_of_mem_set ha with ha | ha
        · exact no42 a ha
        · rw [ha]; exact hb
      obtain ⟨_, e2, e3⟩ := cut_first (c := 42) (r := fmt (xr F)) no'
      have e : s = F.set k (F.getD k 0 ^^^ c) ++ 42 :: fmt (xr F) := by rw [hs]; rfl
      rw [e, e2, e3] at hN
      have nx : numV 255 (fmt (xr F)) = some (xr F) := numV_fmt xrr.1 xrr.2 (by omega)
      unfold numN at hN
      rw [nx] at hN
      exact xr_set hc h hN.symm
  · -- the asterisk itself
    have hg : (F ++ [42] ++ fmt (xr F)).getD k 0 = 42 := by
      rw [List.getD_eq_getElem?_getD, List.append_assoc, List.getElem?_append_right (by omega), h]; simp
    rw [hg, List.append_assoc, List.set_append_right _ _ (by omega), h, Nat.sub_self] at hs
    have e : s = F ++ ((42 ^^^ c) :: fmt (xr F)) := by rw [hs]; rfl
    have no : ∀ a ∈ s, a ≠ 42 := by
      rw [e]
      intro a ha
      rcases List.mem_append.1 ha with ha | ha
      · exact no42 a ha
      · rcases List.mem_cons.1 ha with ha | ha
        · rw [ha]; exact xor_ne hc
        · intro e'; subst e'; have := fb _ ha; omega
    have := ix_none no
    simp [cutC, this] at hC
  · -- the checksum
    have hl : (F ++ [42]).length ≤ k := by simp; omega
    have hk' : k - (F ++ [42]).length < (fmt (xr F)).length := by simp at hk ⊢; omega
    have hg : (F ++ [42] ++ fmt (xr F)).getD k 0 = (fmt (xr F)).getD (k - (F ++ [42]).length) 0 := by
      rw [List.getD_eq_getElem?_getD, List.getD_eq_getElem?_getD, List.getElem?_append_right hl]
    rw [hg, List.set_append_right _ _ hl] at hs
    generalize k - (F ++ [42]).length = j at hs hk'
    have e : s = F ++ 42 :: (fmt (xr F)).set j ((fmt (xr F)).getD j 0 ^^^ c) := by rw [hs]; simp
    obtain ⟨_, e2, e3⟩ := cut_first (c := 42) (r := (fmt (xr F)).set j ((fmt (xr F)).getD j 0 ^^^ c)) no42
    rw [← e] at e2 e3
    rw [e2] at hN
    rw [e3, ← e3, hN] at d1
    rw [e3] at d1
    have h1 : ((fmt (xr F)).set j ((fmt (xr F)).getD j 0 ^^^ c))[j]? = (fmt (xr F))[j]? := by rw [d1]
    rw [List.getElem?_set_self hk', List.getD_eq_getElem?_getD, List.getElem?_eq_getElem hk'] at h1
    simp only [Option.getD_some, Option.some.injEq] at h1
    exact xor_ne hc h1

theorem c_ne {c : Int} (h0 : 0 ≤ c) (h1 : c ≤ 255) (h : c ≠ 0) : UInt8.ofNat c.toNat ≠ 0 := by
  intro e
  have : (UInt8.ofNat c.toNat).toNat = 0 := by rw [e]; rfl
  rw [UInt8.toNat_ofNat'] at this
  omega
theorem open_changed {n : Int} {t : List UInt8} (h : (frame n t).2 = 0) {k c : Int} (h0 : 0 ≤ k) (hk : k < ((frame n t).1.length : Int)) (hc : UInt8.ofNat c.toNat ≠ 0) : (opn (chg (frame n t).1 k c)).2.2 ≠ 0 := by
  obtain ⟨h1, h2, hp, hl, he⟩ := frame_ok h
  have hMC : MC = 1099511627776 := rfl
  have fb := fmt_bytes (n := n) (by omega) (by omega)
  have hp' : ∀ b ∈ t, okB b = true := by simpa [plainB, List.all_eq_true] using hp
  have b42 : ((42 : UInt8).toNat : Int) = 42 := rfl
  have no42 : ∀ a ∈ [78] ++ fmt n ++ [32] ++ t, a ≠ 42 := by
    intro a ha e
    subst e
    simp only [List.mem_append, List.mem_singleton] at ha
    rcases ha with ((ha | ha) | ha) | ha
    · cases ha
    · have := fb _ ha; omega
    · cases ha
    · have := okB_iff.1 (hp' _ ha); omega
  rw [he] at hk ⊢
  have key := sealed_changed no42 hc (k := k.toNat) (by omega) rfl
  unfold opn
  split
  · rename_i hg
    split
    · rename_i hx
      refine absurd ⟨?_, hx⟩ key
      unfold goodB at hg
      rw [Bool.and_eq_true] at hg
      exact hg.1
    · show (7 : Int) ≠ 0; decide
  · show (5 : Int) ≠ 0; decide
theorem answer_changed {w : List UInt8} {n : Int} (hw : w = wOk ∨ w = wRe) (hn : 0 ≤ n) (hn1 : n ≤ MC + 1) {k c : Int} (h0 : 0 ≤ k) (hk : k < ((repl w n).length : Int)) (hc : UInt8.ofNat c.toNat ≠ 0) : aB (chg (repl w n) k c) = false := by
  have hMC := MC_eq
  have fb := fmt_bytes (n := n) (by omega) (by omega)
  have b42 : ((42 : UInt8).toNat : Int) = 42 := rfl
  have w42 : ∀ a ∈ w, a ≠ 42 ∧ a ≠ 32 := by rcases hw with h | h <;> subst h <;> decide
  have no42 : ∀ a ∈ w ++ [32] ++ fmt n, a ≠ 42 := by
    intro a ha e
    subst e
    simp only [List.mem_append, List.mem_singleton] at ha
    rcases ha with (ha | ha) | ha
    · exact (w42 _ ha).1 rfl
    · cases ha
    · have := fb _ ha; omega
  unfold repl at hk ⊢
  have key := sealed_changed no42 hc (k := k.toNat) (by omega) rfl
  rw [← Bool.not_eq_true]
  intro h
  simp only [aB, aE, Bool.and_eq_true, beq_iff_eq] at h
  exact key ⟨h.1.1, h.1.2.1⟩
theorem chg_small {s : List UInt8} {k c : Int} (h : small s = true) : small (chg s k c) = true := small_le (by unfold chg; rw [List.length_set]; exact Nat.le_refl _) h
end Go.Proofs.Ytibpodgdondakaa
