/-
  G7: frames in plain words: cutting, numbers, checksums.
-/
import Derived.Test.YtibpodgdondakaaG6
set_option linter.unusedSimpArgs false
set_option linter.unusedVariables false
set_option maxRecDepth 100000
namespace Go.Proofs.Ytibpodgdondakaa
open Go.Sx

def cutC (s : List UInt8) (c : UInt8) : Bool := decide (0 ≤ ix s c)
def cutA (s : List UInt8) (c : UInt8) : List UInt8 := if 0 ≤ ix s c then s.take (ix s c).toNat else s
def cutB (s : List UInt8) (c : UInt8) : List UInt8 := if 0 ≤ ix s c then s.drop (ix s c + 1).toNat else []
def numN (M : Int) (s : List UInt8) : Int := (numV M s).getD 0
def numO (M : Int) (s : List UInt8) : Bool := (numV M s).isSome
def preN (s : List UInt8) : Bool := s.head? == some 78
theorem numS_eq (o : Option Int) : numS o = .tuple [I64 (o.getD 0), .bool o.isSome] := by cases o <;> rfl

def fNum : Fact := ⟨47, fun args => match args with
  | [.str a, .int .i64 M] => some (.req (decide (0 ≤ M) && decide (M ≤ 4398046511104)) (.leaf (.tuple [I64 (numN M a), .bool (numO M a)])))
  | _ => none⟩
theorem o_num : fNum.ok Try.prog := fun args t ht => by
  simp only [fNum] at ht
  split at ht
  · rename_i a M
    injection ht with ht; subst ht
    intro h
    simp only [Bool.and_eq_true, decide_eq_true_eq] at h
    have := s_num a M h
    rw [numS_eq] at this
    exact this
  · cases ht
def fParse : Fact := factL 51 fun s => .leaf (.tuple [I64 (parseV s).1, I64 (parseV s).2])
theorem o_parse : fParse.ok Try.prog := factL_ok s_parse
def fCut : Fact := ⟨44, fun args => match args with
  | [.str a, .str b] => some (.req (small a) (.node (b == [42]) (.leaf (.tuple [.str (cutA a 42), .str (cutB a 42), .bool (cutC a 42)])) (.node (b == [32]) (.leaf (.tuple [.str (cutA a 32), .str (cutB a 32), .bool (cutC a 32)])) (.fail 0))))
  | _ => none⟩
def fPre : Fact := ⟨45, fun args => match args with
  | [.str a, .str b] => some (.req (small a) (.node (b == [78]) (.leaf (.bool (preN a))) (.fail 0)))
  | _ => none⟩
def fFind2 : Fact := fFind 0
theorem o_find2 : fFind2.ok Try.prog := o_find 0

theorem cutA_len (s : List UInt8) (c : UInt8) : (cutA s c).length ≤ s.length := by
  unfold cutA
  split
  · rw [List.length_take]; omega
  · exact Nat.le_refl _
theorem cutB_len (s : List UInt8) (c : UInt8) : (cutB s c).length ≤ s.length := by
  unfold cutB
  split
  · rw [List.length_drop]; omega
  · exact Nat.zero_le _

theorem numO_iff {M : Int} (hM : 0 ≤ M) (hM2 : M ≤ 4398046511104) (B : List UInt8) : numO M B = true ↔ ((parseV B).2 = 0 ∧ 0 ≤ (parseV B).1 ∧ (parseV B).1 ≤ M) := by
  unfold numO
  constructor
  · intro h
    obtain ⟨v, hv⟩ := Option.isSome_iff_exists.1 h
    obtain ⟨h1, h2, h3⟩ := (parse_num hM hM2 B v).1 hv
    rw [h1]; exact ⟨rfl, h2, h3⟩
  · rintro ⟨h1, h2, h3⟩
    have := (parse_num hM hM2 B (parseV B).1).2 ⟨by rw [← h1], h2, h3⟩
    rw [this]; rfl
theorem numN_of {M : Int} (hM : 0 ≤ M) (hM2 : M ≤ 4398046511104) {B : List UInt8} (h : numO M B = true) : numN M B = (parseV B).1 := by
  obtain ⟨h1, h2, h3⟩ := (numO_iff hM hM2 B).1 h
  have := (parse_num hM hM2 B (parseV B).1).2 ⟨by rw [← h1], h2, h3⟩
  unfold numN; rw [this]; rfl
theorem numN_not {M : Int} {B : List UInt8} (h : numO M B = false) : numN M B = 0 := by
  unfold numO at h; unfold numN
  cases hx : numV M B with
  | none => rfl
  | some v => rw [hx] at h; cases h
theorem cut_at {s : List UInt8} {c : UInt8} (h : cutC s c = true) : cutA s c = s.take (ix s c).toNat ∧ cutB s c = s.drop (ix s c + 1).toNat ∧ 0 ≤ ix s c := by
  have h : 0 ≤ ix s c := by simpa [cutC] using h
  unfold cutA cutB
  rw [if_pos h, if_pos h]
  exact ⟨rfl, rfl, h⟩
theorem small_le {s t : List UInt8} (h : t.length ≤ s.length) (hs : small s = true) : small t = true := by
  rw [small_iff] at hs ⊢; omega

theorem fmt_len (n : Int) : (fmt n).length ≤ 21 := by
  have := (backs_len n).1
  simpa [fmt, toB] using this
theorem pre_eq (b : UInt8) (l : List UInt8) : (List.take 1 (b :: l) == [78]) = preN (b :: l) := by
  show (([b] : List UInt8) == [78]) = (some b == some 78)
  by_cases h : b = 78
  · subst h; rfl
  · have h1 : (([b] : List UInt8) == [78]) = false := by rw [beq_eq_false_iff_ne]; intro e; injection e with e; exact h e
    have h2 : (some b == some (78 : UInt8)) = false := by rw [beq_eq_false_iff_ne]; intro e; injection e with e; exact h e
    rw [h1, h2]

/-- What stands before the asterisk, the checksum (in both readings), and whether there is one. -/
def hd (s : List UInt8) : List UInt8 := if cutC s 42 then cutA s 42 else []
def cN (s : List UInt8) : Int := if cutC s 42 then numN 255 (cutB s 42) else 0
def cP (s : List UInt8) : Int := if cutC s 42 then (parseV (cutB s 42)).1 else 0
def cO (s : List UInt8) : Bool := cutC s 42 && numO 255 (cutB s 42)
def MC : Int := 1099511627776
/-- The digits behind the N. -/
def dg (s : List UInt8) : List UInt8 := List.drop 1 (cutA (hd s) 32)
def goodB (s : List UInt8) : Bool := cO s && (cutC (hd s) 32 && (preN (cutA (hd s) 32) && (decide (((cutB (hd s) 32).length : Int) ≤ 96) && (plainB (cutB (hd s) 32) && (numO MC (dg s) && decide (1 ≤ numN MC (dg s)))))))
def opn (s : List UInt8) : Int × List UInt8 × Int := if goodB s then (if cN s = xr (hd s) then (numN MC (dg s), cutB (hd s) 32, 0) else (0, [], 7)) else (0, [], 5)
def frame (n : Int) (t : List UInt8) : List UInt8 × Int :=
  if n < 1 ∨ n > MC ∨ plainB t = false then ([], 1) else if (t.length : Int) > 96 then ([], 2) else ([78] ++ fmt n ++ [32] ++ t ++ [42] ++ fmt (xr ([78] ++ fmt n ++ [32] ++ t)), 0)

theorem hd_len (s : List UInt8) : (hd s).length ≤ s.length := by
  unfold hd
  split
  · exact cutA_len s 42
  · exact Nat.zero_le _
theorem cO_same {s : List UInt8} (h : cO s = true) : cN s = cP s := by
  simp only [cO, Bool.and_eq_true] at h
  unfold cN cP
  rw [h.1]
  simp only [if_true]
  exact numN_of (by omega) (by omega) h.2

theorem preN_len {s : List UInt8} (h : preN s = true) : 1 ≤ s.length := by
  cases s with
  | nil => cases h
  | cons b l => simp
theorem preN_take {s : List UInt8} {i : Nat} (hi : 1 ≤ i) (h : 0 < s.length) : preN (s.take i) = true ↔ bt s 0 = 78 := by
  cases s with
  | nil => simp at h
  | cons b l =>
    obtain ⟨k, rfl⟩ : ∃ k, i = k + 1 := ⟨i - 1, by omega⟩
    have e78 : (78 : UInt8).toNat = 78 := rfl
    rw [bt0]
    simp only [preN, List.take_succ_cons, List.head?_cons, beq_iff_eq, Option.some.injEq]
    exact ⟨fun h => by subst h; rfl, fun h => UInt8.toNat_inj.1 (by omega)⟩
end Go.Proofs.Ytibpodgdondakaa
