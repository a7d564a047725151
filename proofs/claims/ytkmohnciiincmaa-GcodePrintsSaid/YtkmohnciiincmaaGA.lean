/-
  GA: different commands have different texts.
-/
import Derived.Test.YtkmohnciiincmaaG8
set_option linter.unusedSimpArgs false
set_option linter.unusedVariables false
set_option maxRecDepth 100000
namespace Go.Proofs.Ytkmohnciiincmaa
open Go.Sx

/-! ### Numbers from their texts -/

def dv : List Int → Int
  | [] => 0
  | d :: r => (d - 48) + 10 * dv r
theorem dv_rd : ∀ (k : Nat) (u : Int), 0 ≤ u → u < 10 ^ k → dv (rd k u) = u
  | 0, u, h0, hk => by simp at hk; have : u = 0 := by omega
                       subst this; rfl
  | k + 1, u, h0, hk => by
    unfold rd
    rw [Int.pow_succ] at hk
    split
    · rename_i h
      have := dv_rd k (u / 10) (by omega) (by omega)
      simp only [dv, this]; omega
    · simp only [dv]; omega
theorem rd_digits : ∀ (k : Nat) (u : Int), 0 ≤ u → ∀ d ∈ rd k u, 48 ≤ d ∧ d ≤ 57
  | 0, u, h0, d, hd => by cases hd
  | k + 1, u, h0, d, hd => by
    unfold rd at hd
    cases hd with
    | head => omega
    | tail _ hd =>
      split at hd
      · exact rd_digits k (u / 10) (by omega) d hd
      · cases hd
theorem backs_bytes (n : Int) : ∀ d ∈ backs n, 45 ≤ d ∧ d ≤ 57 := by
  intro d hd
  unfold backs at hd
  rcases List.mem_append.1 hd with hd | hd
  · have := rd_digits 20 _ (size_range n).1 d hd; omega
  · split at hd
    · simp at hd; omega
    · cases hd
theorem toB_inj : ∀ {l m : List Int}, (∀ d ∈ l, 45 ≤ d ∧ d ≤ 57) → (∀ d ∈ m, 45 ≤ d ∧ d ≤ 57) → toB l = toB m → l = m
  | [], [], _, _, _ => rfl
  | [], y :: m, _, _, h => by simp [toB] at h
  | x :: l, [], _, _, h => by simp [toB] at h
  | x :: l, y :: m, hl, hm, h => by
    simp only [toB, List.map_cons, List.cons.injEq] at h
    have hx := hl x List.mem_cons_self
    have hy := hm y List.mem_cons_self
    have h1 := congrArg UInt8.toNat h.1
    simp only [UInt8.toNat_ofNat'] at h1
    have : x = y := by omega
    subst this
    rw [toB_inj (fun d hd => hl d (List.mem_cons_of_mem _ hd)) (fun d hd => hm d (List.mem_cons_of_mem _ hd)) h.2]
theorem fmt_inj {m n : Int} (hm : -9223372036854775808 ≤ m ∧ m ≤ 9223372036854775807) (hn : -9223372036854775808 ≤ n ∧ n ≤ 9223372036854775807) (h : fmt m = fmt n) : m = n := by
  have hb : backs m = backs n := by
    have := toB_inj (l := (backs m).reverse) (m := (backs n).reverse) (fun d hd => backs_bytes m d (List.mem_reverse.1 hd)) (fun d hd => backs_bytes n d (List.mem_reverse.1 hd)) h
    exact List.reverse_inj.1 this
  have sm := size_range m
  have sn := size_range n
  have key : rd 20 (size m) = rd 20 (size n) → size m = size n := fun e => by
    have p : (10 : Int) ^ 20 = 100000000000000000000 := by decide
    have := congrArg dv e
    rwa [dv_rd 20 _ sm.1 (by omega), dv_rd 20 _ sn.1 (by omega)] at this
  unfold backs at hb
  by_cases h1 : m < 0 <;> by_cases h2 : n < 0
  · rw [if_pos h1, if_pos h2] at hb
    have := key (List.append_cancel_right hb)
    unfold size at this
    rw [if_pos h1, if_pos h2] at this
    simp only [u64_def] at this
    omega
  · rw [if_pos h1, if_neg h2, List.append_nil] at hb
    have : (45 : Int) ∈ rd 20 (size n) := by rw [← hb]; simp
    have := rd_digits 20 _ sn.1 _ this
    omega
  · rw [if_neg h1, if_pos h2, List.append_nil] at hb
    have : (45 : Int) ∈ rd 20 (size m) := by rw [hb]; simp
    have := rd_digits 20 _ sm.1 _ this
    omega
  · rw [if_neg h1, if_neg h2, List.append_nil, List.append_nil] at hb
    have := key hb
    unfold size at this
    rw [if_neg h1, if_neg h2] at this
    simp only [u64_def] at this
    omega
theorem toB_mem {l : List Int} {x : UInt8} (hl : ∀ d ∈ l, 45 ≤ d ∧ d ≤ 57) (h : x ∈ toB l) : x ≠ 32 := by
  obtain ⟨d, hd, rfl⟩ := List.mem_map.1 h
  have := hl d hd
  intro e
  have h1 := congrArg UInt8.toNat e
  simp only [UInt8.toNat_ofNat'] at h1
  have : (32 : UInt8).toNat = 32 := rfl
  omega
theorem fmt_nospace (n : Int) : ∀ x ∈ fmt n, x ≠ 32 := fun x hx => toB_mem (fun d hd => backs_bytes n d (List.mem_reverse.1 hd)) hx
theorem name_nospace (k : Int) : ∀ x ∈ nameOf k, x ≠ 32 := by
  intro x hx
  unfold nameOf at hx
  split at hx <;> (rcases List.mem_append.1 hx with h | h; · simp at h; subst h; decide) <;> exact fmt_nospace _ x h

/-! ### Parts between spaces -/

def Heads (r : List UInt8) : Prop := r = [] ∨ ∃ t, r = 32 :: t
theorem cutAt : ∀ {x y r s : List UInt8}, (∀ a ∈ x, a ≠ 32) → (∀ a ∈ y, a ≠ 32) → Heads r → Heads s → x ++ r = y ++ s → x = y ∧ r = s
  | [], [], r, s, _, _, _, _, h => ⟨rfl, h⟩
  | [], b :: y, r, s, _, hy, hr, _, h => by
    rcases hr with rfl | ⟨t, rfl⟩
    · cases h
    · injection h with h1 h2; exact absurd h1.symm (hy b List.mem_cons_self)
  | a :: x, [], r, s, hx, _, _, hs, h => by
    rcases hs with rfl | ⟨t, rfl⟩
    · cases h
    · injection h with h1 h2; exact absurd h1 (hx a List.mem_cons_self)
  | a :: x, b :: y, r, s, hx, hy, hr, hs, h => by
    injection h with h1 h2
    obtain ⟨h3, h4⟩ := cutAt (fun a ha => hx a (List.mem_cons_of_mem _ ha)) (fun a ha => hy a (List.mem_cons_of_mem _ ha)) hr hs h2
    exact ⟨by rw [h1, h3], h4⟩

theorem letter_one {i : Int} (h0 : 0 ≤ i) (h6 : i < 6) : letter (i + 1) i = [letters.getD i.toNat 0] := by
  have : i = 0 ∨ i = 1 ∨ i = 2 ∨ i = 3 ∨ i = 4 ∨ i = 5 := by omega
  rcases this with rfl | rfl | rfl | rfl | rfl | rfl <;> rfl
theorem letters_apart {i j : Int} (h0 : 0 ≤ i) (hij : i < j) (h6 : j < 6) : letters.getD i.toNat 0 ≠ letters.getD j.toNat 0 := by
  have h1 : i = 0 ∨ i = 1 ∨ i = 2 ∨ i = 3 ∨ i = 4 ∨ i = 5 := by omega
  have h2 : j = 0 ∨ j = 1 ∨ j = 2 ∨ j = 3 ∨ j = 4 ∨ j = 5 := by omega
  rcases h1 with rfl | rfl | rfl | rfl | rfl | rfl <;> rcases h2 with rfl | rfl | rfl | rfl | rfl | rfl <;> first | omega | decide

theorem words_head (c : C) : ∀ k : Nat, k ≤ 6 → words c k = [] ∨ ∃ j : Int, 6 - (k : Int) ≤ j ∧ j < 6 ∧ ∃ r, words c k = 32 :: letters.getD j.toNat 0 :: r
  | 0, _ => .inl rfl
  | k + 1, hk => by
    unfold words wordT
    by_cases hb : bit c.has (5 - (k : Int)) = 1
    · rw [if_pos hb, letter_one (by omega) (by omega)]
      exact .inr ⟨5 - (k : Int), by omega, by omega, fmt (c.num (5 - (k : Int))) ++ words c k, rfl⟩
    · rw [if_neg hb, List.nil_append]
      rcases words_head c k (by omega) with h | ⟨j, h1, h2, r, h3⟩
      · exact .inl h
      · exact .inr ⟨j, by omega, h2, r, h3⟩
theorem words_heads (c : C) {k : Nat} (hk : k ≤ 6) : Heads (words c k) := by
  rcases words_head c k hk with h | ⟨j, _, _, r, h⟩
  · exact .inl h
  · exact .inr ⟨_, h⟩

def numsOk (c : C) : Prop := ∀ i : Int, 0 ≤ i → i < 6 → -9223372036854775808 ≤ c.num i ∧ c.num i ≤ 9223372036854775807

theorem words_inj {c d : C} (hc : numsOk c) (hd : numsOk d) : ∀ k : Nat, k ≤ 6 → words c k = words d k → ∀ i : Int, 6 - (k : Int) ≤ i → i < 6 → (bit c.has i = 1 ↔ bit d.has i = 1) ∧ (bit c.has i = 1 → c.num i = d.num i)
  | 0, _, _, i, h1, h2 => by omega
  | k + 1, hk, h, i, h1, h2 => by
    have hi0 : 0 ≤ 5 - (k : Int) := by omega
    have hi6 : 5 - (k : Int) < 6 := by omega
    have le := letter_one hi0 hi6
    have key : ((bit c.has (5 - (k : Int)) = 1 ↔ bit d.has (5 - (k : Int)) = 1) ∧ (bit c.has (5 - (k : Int)) = 1 → c.num (5 - (k : Int)) = d.num (5 - (k : Int)))) ∧ words c k = words d k := by
      unfold words wordT at h
      by_cases b1 : bit c.has (5 - (k : Int)) = 1 <;> by_cases b2 : bit d.has (5 - (k : Int)) = 1
      · rw [if_pos b1, if_pos b2] at h
        simp only [List.append_assoc] at h
        have h := List.append_cancel_left (List.append_cancel_left h)
        obtain ⟨e1, e2⟩ := cutAt (fmt_nospace _) (fmt_nospace _) (words_heads c (by omega)) (words_heads d (by omega)) h
        exact ⟨⟨⟨fun _ => b2, fun _ => b1⟩, fun _ => fmt_inj (hc _ hi0 hi6) (hd _ hi0 hi6) e1⟩, e2⟩
      · rw [if_pos b1, if_neg b2, le, List.nil_append] at h
        rcases words_head d k (by omega) with g | ⟨j, g1, g2, r, g3⟩
        · rw [g] at h; cases h
        · rw [g3] at h
          have h : (32 : UInt8) :: letters.getD (5 - (k : Int)).toNat 0 :: (fmt (c.num (5 - (k : Int))) ++ words c k) = 32 :: letters.getD j.toNat 0 :: r := h
          injection h with _ h
          injection h with h _
          exact absurd h (letters_apart hi0 (by omega) g2)
      · rw [if_neg b1, if_pos b2, le, List.nil_append] at h
        rcases words_head c k (by omega) with g | ⟨j, g1, g2, r, g3⟩
        · rw [g] at h; cases h
        · rw [g3] at h
          have h : (32 : UInt8) :: letters.getD j.toNat 0 :: r = 32 :: letters.getD (5 - (k : Int)).toNat 0 :: (fmt (d.num (5 - (k : Int))) ++ words d k) := h
          injection h with _ h
          injection h with h _
          exact absurd h.symm (letters_apart hi0 (by omega) g2)
      · rw [if_neg b1, if_neg b2] at h
        exact ⟨⟨⟨fun h => absurd h b1, fun h => absurd h b2⟩, fun h => absurd h b1⟩, h⟩
    by_cases hi : i = 5 - (k : Int)
    · subst hi; exact key.1
    · exact words_inj hc hd k (by omega) key.2 i (by omega) h2

/-! ### Bits -/

theorem has_small {h m : Int} (h1 : -9223372036854775808 ≤ h) (h2 : h ≤ 9223372036854775807) (hm : 0 ≤ m) (hm2 : m ≤ 63) (ha : andNot h m = 0) : 0 ≤ h ∧ h ≤ 63 := by
  have h0 := (andNot_zero h1 h2 hm (by omega) ha).1
  refine ⟨h0, ?_⟩
  have hx : BitVec.ofInt 64 h &&& ~~~BitVec.ofInt 64 m = 0#64 := wrap_zero ha
  have he : BitVec.ofInt 64 h = BitVec.ofInt 64 h &&& BitVec.ofInt 64 m := by
    apply BitVec.eq_of_getLsbD_eq
    intro i hi
    have := congrArg (fun x => x.getLsbD i) hx
    simp only [BitVec.getLsbD_and, BitVec.getLsbD_not, BitVec.getLsbD_zero, hi, decide_true, Bool.true_and] at this ⊢
    cases h3 : (BitVec.ofInt 64 h).getLsbD i <;> cases h4 : (BitVec.ofInt 64 m).getLsbD i <;> simp_all
  have h3 := congrArg BitVec.toNat he
  rw [BitVec.toNat_and] at h3
  have h4 : (BitVec.ofInt 64 h).toNat ≤ (BitVec.ofInt 64 m).toNat := by rw [h3]; exact Nat.and_le_right
  rw [BitVec.toNat_ofInt, BitVec.toNat_ofInt] at h4
  omega

theorem bits_sum : ∀ h : Fin 64, ((h.val : Nat) : Int) = bit h.val 0 + 2 * bit h.val 1 + 4 * bit h.val 2 + 8 * bit h.val 3 + 16 * bit h.val 4 + 32 * bit h.val 5 := by decide +kernel
theorem bits_of {h : Int} (h0 : 0 ≤ h) (h63 : h ≤ 63) : h = bit h 0 + 2 * bit h 1 + 4 * bit h 2 + 8 * bit h 3 + 16 * bit h 4 + 32 * bit h 5 := by
  have := bits_sum ⟨h.toNat, by omega⟩
  simp only at this
  rw [show ((h.toNat : Nat) : Int) = h by omega] at this
  exact this

/-! ### A valid command -/

theorem rest_all {c : C} (h : rest c 6 = true) : ∀ i : Int, 0 ≤ i → i < 6 → okW c i = true := by
  simp only [rest, Bool.and_eq_true] at h
  intro i h0 h6
  have : i = 0 ∨ i = 1 ∨ i = 2 ∨ i = 3 ∨ i = 4 ∨ i = 5 := by omega
  rcases this with rfl | rfl | rfl | rfl | rfl | rfl
  · exact h.1
  · exact h.2.1
  · exact h.2.2.1
  · exact h.2.2.2.1
  · exact h.2.2.2.2.1
  · exact h.2.2.2.2.2.1

theorem lohi (k i : Int) : -1073741824 ≤ lo k i ∧ hi k i ≤ 1073741824 := by
  unfold lo hi
  constructor <;> (repeat' split) <;> omega
structure Fine (c : C) : Prop where
  ok : okC c.code = true
  has : 0 ≤ c.has ∧ c.has ≤ 63
  nums : numsOk c
  zero : ∀ i : Int, 0 ≤ i → i < 6 → bit c.has i ≠ 1 → c.num i = 0
theorem fine_of {c : C} (hg : c.good) (h : c.valid = true) : Fine c := by
  simp only [C.valid, C.pre, Bool.and_eq_true, beq_iff_eq] at h
  obtain ⟨⟨h1, h2, _⟩, h4⟩ := h
  have hm : may c.code = 0 ∨ may c.code = 23 ∨ may c.code = 31 ∨ may c.code = 32 := by
    unfold may; (repeat' split) <;> simp
  have ra := rest_all h4
  refine ⟨h1, has_small hg.1 hg.2 (by omega) (by omega) h2, fun i h0 h6 => ?_, fun i h0 h6 hb => ?_⟩
  · have := (okW_ok (c := c) (i := i) rfl).1 (ra i h0 h6)
    have := lohi c.code i
    omega
  · have := (okW_ok (c := c) (i := i) rfl).1 (ra i h0 h6)
    have := bit_01 c.has i
    omega

theorem name_inj {k l : Int} (hk : okC k = true) (hl : okC l = true) (h : nameOf k = nameOf l) : k = l := by
  rw [okC_codes] at hk hl
  have hk : 0 ≤ k ∧ k < 2000 := by
    simp only [codes, List.mem_cons, List.not_mem_nil, or_false] at hk; omega
  have hl : 0 ≤ l ∧ l < 2000 := by
    simp only [codes, List.mem_cons, List.not_mem_nil, or_false] at hl; omega
  unfold nameOf at h
  by_cases h1 : k < 1000 <;> by_cases h2 : l < 1000
  · rw [if_pos h1, if_pos h2] at h
    exact fmt_inj (by omega) (by omega) (List.append_cancel_left h)
  · rw [if_pos h1, if_neg h2] at h
    have : (71 : UInt8) = 77 := by injection h
    exact absurd this (by decide)
  · rw [if_neg h1, if_pos h2] at h
    have : (77 : UInt8) = 71 := by injection h
    exact absurd this (by decide)
  · rw [if_neg h1, if_neg h2] at h
    have := fmt_inj (by rw [wrap64 (by omega) (by omega)]; omega) (by rw [wrap64 (by omega) (by omega)]; omega) (List.append_cancel_left h)
    rw [wrap64 (by omega) (by omega), wrap64 (by omega) (by omega)] at this
    omega

theorem text_inj {c d : C} (hc : Fine c) (hd : Fine d) (h : c.text = d.text) : c = d := by
  unfold C.text at h
  obtain ⟨h1, h2⟩ := cutAt (name_nospace _) (name_nospace _) (words_heads c (Nat.le_refl 6)) (words_heads d (Nat.le_refl 6)) h
  have e1 := name_inj hc.ok hd.ok h1
  have hw := words_inj hc.nums hd.nums 6 (Nat.le_refl 6) h2
  have hbit : ∀ i : Int, 0 ≤ i → i < 6 → bit c.has i = bit d.has i := fun i h0 h6 => by
    have := (hw i (by omega) h6).1
    have := bit_01 c.has i
    have := bit_01 d.has i
    omega
  have e2 : c.has = d.has := by
    rw [bits_of hc.has.1 hc.has.2, bits_of hd.has.1 hd.has.2, hbit 0 (by omega) (by omega), hbit 1 (by omega) (by omega), hbit 2 (by omega) (by omega), hbit 3 (by omega) (by omega), hbit 4 (by omega) (by omega), hbit 5 (by omega) (by omega)]
  have hnum : ∀ i : Int, 0 ≤ i → i < 6 → c.num i = d.num i := fun i h0 h6 => by
    by_cases hb : bit c.has i = 1
    · exact (hw i (by omega) h6).2 hb
    · rw [hc.zero i h0 h6 hb, hd.zero i h0 h6 (by rw [← hbit i h0 h6]; exact hb)]
  have n0 := hnum 0 (by omega) (by omega)
  have n1 := hnum 1 (by omega) (by omega)
  have n2 := hnum 2 (by omega) (by omega)
  have n3 := hnum 3 (by omega) (by omega)
  have n4 := hnum 4 (by omega) (by omega)
  have n5 := hnum 5 (by omega) (by omega)
  simp only [num0, num1, num2, num3, num4, num5] at n0 n1 n2 n3 n4 n5
  cases c; cases d
  simp_all

theorem apart_eq {a b : C} (ha : a.good) (hb : b.good) (va : a.valid = true) (vb : b.valid = true) : ((a.text == b.text) == (a.code == b.code && (a.has == b.has && (a.x == b.x && (a.y == b.y && (a.z == b.z && (a.e == b.e && (a.f == b.f && (a.s == b.s && true))))))))) = true := by
  have fa := fine_of ha va
  have fb := fine_of hb vb
  by_cases h : a = b
  · subst h; simp
  · have h1 : a.text ≠ b.text := fun e => h (text_inj fa fb e)
    have h2 : (a.code == b.code && (a.has == b.has && (a.x == b.x && (a.y == b.y && (a.z == b.z && (a.e == b.e && (a.f == b.f && (a.s == b.s && true)))))))) = false := by
      rw [← Bool.not_eq_true]
      intro hh
      apply h
      cases a; cases b
      simpa using hh
    rw [h2]
    simpa using h1
end Go.Proofs.Ytkmohnciiincmaa
