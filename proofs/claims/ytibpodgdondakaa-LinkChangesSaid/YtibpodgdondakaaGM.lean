/-
  GM: canonical decimals, and answers in plain words.
-/
import Derived.Test.YtibpodgdondakaaGL
set_option linter.unusedSimpArgs false
set_option linter.unusedVariables false
set_option maxRecDepth 100000
namespace Go.Proofs.Ytibpodgdondakaa
open Go.Sx

/-! ### Canonical decimals -/

theorem dv_nonneg : ∀ (l : List Int), (∀ d ∈ l, 48 ≤ d ∧ d ≤ 57) → 0 ≤ dv l
  | [], _ => Int.le_refl 0
  | d :: r, h => by
    have := dv_nonneg r fun x hx => h x (List.mem_cons_of_mem _ hx)
    have := h d List.mem_cons_self
    simp only [dv]; omega
theorem dv_big : ∀ (l : List Int), l ≠ [] → (∀ d ∈ l, 48 ≤ d ∧ d ≤ 57) → l.getLast? ≠ some 48 → (10 : Int) ^ (l.length - 1) ≤ dv l
  | [], h, _, _ => absurd rfl h
  | [d], _, h, hl => by
    have := h d List.mem_cons_self
    have : d ≠ 48 := fun e => hl (by rw [e]; rfl)
    simp only [dv, List.length_singleton, Nat.sub_self, Int.pow_zero]; omega
  | d :: e :: r, _, h, hl => by
    have ih := dv_big (e :: r) (by simp) (fun x hx => h x (List.mem_cons_of_mem _ hx)) (by rw [List.getLast?_cons_cons] at hl; exact hl)
    have := h d List.mem_cons_self
    have hp : (10 : Int) ^ ((d :: e :: r).length - 1) = 10 ^ ((e :: r).length - 1) * 10 := by
      rw [← Int.pow_succ]; rfl
    rw [hp, dv]; omega
theorem rd_dv : ∀ (k : Nat) (l : List Int), l ≠ [] → (∀ d ∈ l, 48 ≤ d ∧ d ≤ 57) → l.length ≤ k → (l.length = 1 ∨ l.getLast? ≠ some 48) → rd k (dv l) = l
  | 0, l, h, _, hk, _ => absurd (List.eq_nil_of_length_eq_zero (by omega)) h
  | k + 1, [], h, _, _, _ => absurd rfl h
  | k + 1, [d], _, h, _, _ => by
    have := h d List.mem_cons_self
    have hdv : dv [d] = (d - 48) + 10 * 0 := rfl
    rw [hdv]
    unfold rd
    rw [if_neg (by omega), show 48 + (d - 48 + 10 * 0) % 10 = d by omega]
  | k + 1, d :: e :: r, _, h, hk, hl => by
    have hd := h d List.mem_cons_self
    have hl : (e :: r).getLast? ≠ some 48 := by
      rcases hl with hl | hl
      · simp at hl
      · rw [List.getLast?_cons_cons] at hl; exact hl
    have hr : ∀ d ∈ e :: r, 48 ≤ d ∧ d ≤ 57 := fun x hx => h x (List.mem_cons_of_mem _ hx)
    have hb := dv_big (e :: r) (by simp) hr hl
    have hp : (0 : Int) < 10 ^ ((e :: r).length - 1) := Int.pow_pos (by decide)
    have ih := rd_dv k (e :: r) (by simp) hr (by simp only [List.length_cons] at hk ⊢; omega) (.inr hl)
    have hdv : dv (d :: e :: r) = (d - 48) + 10 * dv (e :: r) := rfl
    generalize dv (e :: r) = v at *
    rw [hdv]
    unfold rd
    rw [show (d - 48 + 10 * v) / 10 = v by omega, show 48 + (d - 48 + 10 * v) % 10 = d by omega, if_pos (by omega), ih]

theorem p19 : (10 : Int) ^ 19 = 10000000000000000000 := by decide
/-- A number that is read has been printed so. -/
theorem numV_canon {M v : Int} {s : List UInt8} (hM : 0 ≤ M) (hM2 : M ≤ 4398046511104) (h : numV M s = some v) : s = fmt v ∧ 0 ≤ v ∧ v ≤ M := by
  rw [numV_eq hM] at h
  obtain ⟨hne, hl0, hd, hv, e⟩ := h
  have back : toB ((s.map fun b => (b.toNat : Int))) = s := by
    unfold toB
    rw [List.map_map]
    conv => rhs; rw [← List.map_id s]
    refine List.map_congr_left fun b _ => ?_
    simp
  have hl : ∀ d ∈ (s.map fun b => (b.toNat : Int)).reverse, 48 ≤ d ∧ d ≤ 57 := by
    intro d hd'
    obtain ⟨b, hb, rfl⟩ := List.mem_map.1 (List.mem_reverse.1 hd')
    simp only [digs, List.all_eq_true] at hd
    exact isDig_iff.1 (hd b hb)
  generalize hL : (s.map fun b => (b.toNat : Int)).reverse = l at *
  have hs : s = toB l.reverse := by rw [← hL, List.reverse_reverse, back]
  have hval : val s = dv l := by rw [hs, val_toB hl]
  have hlen : l.length = s.length := by rw [← hL]; simp
  have hne' : l ≠ [] := fun h => hne (List.eq_nil_of_length_eq_zero (by rw [← hlen, h]; rfl))
  have hlast : l.length = 1 ∨ l.getLast? ≠ some 48 := by
    by_cases h1 : 1 < s.length
    · right
      intro hc
      rw [← hL, List.getLast?_reverse, List.head?_map] at hc
      simp only [lead0, decide_eq_true h1, Bool.and_true, beq_eq_false_iff_ne] at hl0
      cases hh : s.head? with
      | none => rw [hh] at hc; cases hc
      | some b =>
        rw [hh] at hc hl0
        simp only [Option.map_some, Option.some.injEq] at hc
        apply hl0
        rw [Option.some.injEq]
        apply UInt8.toNat_inj.1
        have : ((48 : UInt8).toNat : Int) = 48 := rfl
        omega
    · left
      have : s.length ≠ 0 := fun h => hne (List.eq_nil_of_length_eq_zero h)
      omega
  have hn := dv_nonneg l hl
  have hk : l.length ≤ 20 := by
    by_cases hk : l.length ≤ 20
    · exact hk
    · exfalso
      have hb := dv_big l hne' hl (hlast.resolve_left (by omega))
      have hp : (10 : Int) ^ 19 ≤ 10 ^ (l.length - 1) := by
        have hq : (1 : Int) ≤ 10 ^ (l.length - 20) := by
          have : (0 : Int) < 10 ^ (l.length - 20) := Int.pow_pos (by decide)
          omega
        have e : (10 : Int) ^ (l.length - 1) = 10 ^ 19 * 10 ^ (l.length - 20) := by rw [← Int.pow_add]; congr 1; omega
        rw [e, p19]; omega
      rw [p19] at hp
      omega
  have hr := rd_dv 20 l hne' hl hk hlast
  refine ⟨?_, by omega, by omega⟩
  rw [fmt_pos (by omega) (by omega), e, hval, hr]
  exact hs

theorem ix_join {c : UInt8} : ∀ {s : List UInt8}, 0 ≤ ix s c → s = s.take (ix s c).toNat ++ c :: s.drop (ix s c + 1).toNat
  | [], h => by have : ix [] c = -1 := rfl
                omega
  | a :: s, h => by
    rw [ix_cons] at h ⊢
    by_cases e : a = c
    · subst e; rw [if_pos rfl]; rfl
    · rw [if_neg e] at h ⊢
      by_cases hx : ix s c = -1
      · rw [if_pos hx] at h; omega
      · rw [if_neg hx] at h ⊢
        have hg := ix_ge s c
        have ih := ix_join (c := c) (s := s) (by omega)
        rw [show (ix s c + 1).toNat = (ix s c).toNat + 1 by omega, show (ix s c + 1 + 1).toNat = (ix s c + 1).toNat + 1 by omega, List.take_succ_cons, List.drop_succ_cons, List.cons_append, ← ih]
theorem cut_join {c : UInt8} {s : List UInt8} (h : cutC s c = true) : s = cutA s c ++ c :: cutB s c := by
  obtain ⟨a, b, d⟩ := cut_at h
  rw [a, b]; exact ix_join d

/-! ### Answers -/

def aE (s : List UInt8) : Bool := cO s && (cN s == xr (hd s) && (cutC (hd s) 32 && (cutA (hd s) 32 == wOk || cutA (hd s) 32 == wRe)))
def aB (s : List UInt8) : Bool := aE s && numO (MC + 1) (cutB (hd s) 32)
def aW (s : List UInt8) : List UInt8 := if aE s then cutA (hd s) 32 else []
def aN (s : List UInt8) : Int := if aE s then numN (MC + 1) (cutB (hd s) 32) else 0
def rplB (w s : List UInt8) : Bool := aB s && aW s == w
def rplN (w s : List UInt8) : Int := if rplB w s then aN s else 0

theorem MC_eq : MC = 1099511627776 := rfl
theorem rpl_to {w s : List UInt8} (h : rplB w s = true) : s = repl w (aN s) ∧ 0 ≤ aN s ∧ aN s ≤ MC + 1 ∧ (w = wOk ∨ w = wRe) := by
  have hMC := MC_eq
  simp only [rplB, aB, Bool.and_eq_true, beq_iff_eq] at h
  obtain ⟨⟨hE, hO⟩, hW⟩ := h
  have hN : aN s = numN (MC + 1) (cutB (hd s) 32) := by unfold aN; rw [hE, if_pos rfl]
  have hw : cutA (hd s) 32 = w := by unfold aW at hW; rwa [hE, if_pos rfl] at hW
  rw [hN]
  simp only [aE, Bool.and_eq_true, Bool.or_eq_true, beq_iff_eq] at hE
  obtain ⟨hcO, hx, hc, hww⟩ := hE
  simp only [cO, Bool.and_eq_true] at hcO
  obtain ⟨h42, h255⟩ := hcO
  have hhd : hd s = cutA s 42 := by unfold hd; rw [h42, if_pos rfl]
  have num : ∀ {M : Int} {t : List UInt8}, numO M t = true → numV M t = some (numN M t) := fun {M t} h => by
    unfold numO at h; unfold numN
    cases hv : numV M t with
    | none => rw [hv] at h; cases h
    | some v => rfl
  obtain ⟨c1, c2, c3⟩ := numV_canon (by omega) (by omega) (num hO)
  obtain ⟨d1, d2, d3⟩ := numV_canon (by omega) (by omega) (num h255)
  have hcN : cN s = numN 255 (cutB s 42) := by unfold cN; rw [h42, if_pos rfl]
  refine ⟨?_, c2, c3, by rw [← hw]; exact hww⟩
  have j1 := cut_join h42
  have j2 := cut_join hc
  rw [hw] at j2
  generalize numN (MC + 1) (cutB (hd s) 32) = n at *
  rw [c1] at j2
  conv => lhs; rw [j1]
  rw [← hhd, d1, ← hcN, hx]
  unfold repl
  rw [show w ++ [32] ++ fmt n = hd s by rw [j2]; simp]
  simp
theorem rpl_of {w : List UInt8} {n : Int} (hw : w = wOk ∨ w = wRe) (h0 : 0 ≤ n) (h1 : n ≤ MC + 1) : rplB w (repl w n) = true ∧ aN (repl w n) = n ∧ ix (repl w n) 42 = w.length + 1 + (fmt n).length := by
  have hMC := MC_eq
  have fb := fmt_bytes (n := n) (by omega) (by omega)
  have b42 : ((42 : UInt8).toNat : Int) = 42 := rfl
  have w42 : ∀ a ∈ w, a ≠ 42 ∧ a ≠ 32 := by rcases hw with h | h <;> subst h <;> decide
  have no42 : ∀ a ∈ w ++ [32] ++ fmt n, a ≠ 42 := by
    intro a ha e
    subst e
    simp only [List.mem_append, List.mem_singleton] at ha
    rcases ha with (ha | ha) | ha
    · exact (w42 _ ha).1 rfl
    · cases ha
    · have := fb _ ha; omega
  have no32 : ∀ a ∈ w, a ≠ 32 := fun a ha => (w42 a ha).2
  have hlen : ((w ++ [32] ++ fmt n).length : Int) = w.length + 1 + (fmt n).length := by simp; omega
  unfold repl
  generalize hF : w ++ [32] ++ fmt n = F at no42 hlen ⊢
  have e1 : F ++ [42] ++ fmt (xr F) = F ++ 42 :: fmt (xr F) := by simp
  have e2 : F = w ++ 32 :: fmt n := by rw [← hF]; simp
  rw [e1]
  obtain ⟨c1, c2, c3⟩ := cut_first (r := fmt (xr F)) no42
  have hhd : hd (F ++ 42 :: fmt (xr F)) = F := by unfold hd; rw [c1, if_pos rfl, c2]
  obtain ⟨d1, d2, d3⟩ := cut_first (r := fmt n) no32
  rw [← e2] at d1 d2 d3
  have xrr := xr_range F
  have nx : numV 255 (fmt (xr F)) = some (xr F) := numV_fmt xrr.1 xrr.2 (by omega)
  have nn : numV (MC + 1) (fmt n) = some n := numV_fmt h0 h1 (by omega)
  have hE : aE (F ++ 42 :: fmt (xr F)) = true := by
    unfold aE cO cN numO numN
    rw [hhd, c1, c3, nx, d1, d2]
    simp only [Option.isSome_some, Option.getD_some, if_true, beq_self_eq_true, Bool.true_and, Bool.or_eq_true, beq_iff_eq]
    exact hw
  have hN : aN (F ++ 42 :: fmt (xr F)) = n := by unfold aN numN; rw [hE, if_pos rfl, hhd, d3, nn]; rfl
  refine ⟨?_, hN, by rw [ix_first no42, hlen]⟩
  unfold rplB aB aW numO
  rw [hE, hhd, d2, d3, nn, if_pos rfl]
  simp
end Go.Proofs.Ytibpodgdondakaa
