/-
  G5: numbers are read in two ways, which agree.
-/
import Derived.Test.YtibpodgdondakaaG4
set_option linter.unusedSimpArgs false
set_option linter.unusedVariables false
set_option maxRecDepth 100000
namespace Go.Proofs.Ytibpodgdondakaa
open Go.Sx

def isDig (b : UInt8) : Bool := decide (48 ≤ (b.toNat : Int)) && decide ((b.toNat : Int) ≤ 57)
def digs (l : List UInt8) : Bool := l.all isDig
def valF (n : Int) (l : List UInt8) : Int := l.foldl (fun n b => 10 * n + ((b.toNat : Int) - 48)) n
def val (l : List UInt8) : Int := valF 0 l

theorem isDig_iff {b : UInt8} : isDig b = true ↔ 48 ≤ (b.toNat : Int) ∧ (b.toNat : Int) ≤ 57 := by simp [isDig]
theorem valF_cons (n : Int) (b : UInt8) (l : List UInt8) : valF n (b :: l) = valF (10 * n + ((b.toNat : Int) - 48)) l := rfl
theorem valF_ge : ∀ (l : List UInt8) (n : Int), 0 ≤ n → digs l = true → n ≤ valF n l
  | [], n, _, _ => Int.le_refl n
  | b :: l, n, h, hd => by
    simp only [digs, List.all_cons, Bool.and_eq_true] at hd
    have := isDig_iff.1 hd.1
    rw [valF_cons]
    have := valF_ge l (10 * n + ((b.toNat : Int) - 48)) (by omega) hd.2
    omega

/-! ### The one way -/

/-- The number of a text that is at most M. -/
def numR (M : Int) : Int → List UInt8 → Option Int
  | n, [] => some n
  | n, b :: l => if isDig b then (if 10 * n + ((b.toNat : Int) - 48) > M then none else numR M (10 * n + ((b.toNat : Int) - 48)) l) else none
theorem numR_eq {M : Int} : ∀ (l : List UInt8) (n : Int), 0 ≤ n → n ≤ M → numR M n l = if digs l = true ∧ valF n l ≤ M then some (valF n l) else none
  | [], n, h0, hM => by simp [numR, digs, valF, hM]
  | b :: l, n, h0, hM => by
    unfold numR
    by_cases hb : isDig b = true
    · have hb' := isDig_iff.1 hb
      rw [if_pos hb, valF_cons]
      have hdc : digs (b :: l) = digs l := by simp [digs, hb]
      rw [hdc]
      by_cases hm : 10 * n + ((b.toNat : Int) - 48) > M
      · rw [if_pos hm, if_neg]
        rintro ⟨hd, hv⟩
        have := valF_ge l (10 * n + ((b.toNat : Int) - 48)) (by omega) hd
        omega
      · rw [if_neg hm]
        exact numR_eq l _ (by omega) (by omega)
    · rw [if_neg hb, if_neg]
      rintro ⟨hd, _⟩
      simp only [digs, List.all_cons, Bool.and_eq_true] at hd
      exact hb hd.1
def lead0 (s : List UInt8) : Bool := (s.head? == some 48) && decide (1 < s.length)
def numV (M : Int) (s : List UInt8) : Option Int := if s = [] ∨ lead0 s = true then none else numR M 0 s
def numS (o : Option Int) : SV := match o with
  | some n => .tuple [I64 n, .bool true]
  | none => .tuple [I64 0, .bool false]

theorem getBang {s : List UInt8} {p : Nat} {b : UInt8} (h : s[p]? = some b) : (ByteArray.mk (Array.mk s)).get! p = b := by
  show (Array.mk s)[p]! = b
  have hl := (List.getElem?_eq_some_iff.1 h).1
  rw [getElem!_pos _ _ (by simpa using hl)]
  simpa using (List.getElem?_eq_some_iff.1 h).2

theorem decode_lo {s : List UInt8} {p : Nat} {b : UInt8} (h : s[p]? = some b) (hb : b.toNat < 128) : Utf8.decode (ByteArray.mk (Array.mk s)) p = (b.toNat, 1) := by
  have e : ((ByteArray.mk (Array.mk s)).get! (p + 0)).toNat = b.toNat := by rw [Nat.add_zero, getBang h]
  unfold Utf8.decode
  simp only [e]
  rw [if_pos hb]
theorem decode_hi {s : List UInt8} {p : Nat} {b : UInt8} (h : s[p]? = some b) (hb : 128 ≤ b.toNat) : 128 ≤ (Utf8.decode (ByteArray.mk (Array.mk s)) p).1 := by
  have e : ((ByteArray.mk (Array.mk s)).get! (p + 0)).toNat = b.toNat := by rw [Nat.add_zero, getBang h]
  unfold Utf8.decode
  simp only [e]
  rw [if_neg (by omega)]
  have re : Utf8.runeError = 65533 := rfl
  repeat' split
  all_goals first
    | (rw [re]; omega)
    | (rename_i hc; simp only [Bool.and_eq_true, decide_eq_true_eq, ge_iff_le] at hc; dsimp only; omega)
    | (rename_i hc; dsimp only; omega)

structure SN where
  n : Int
  p : Nat
def SN.inv (s : List UInt8) (M : Int) (o : Option Int) (a : SN) : Prop := 0 ≤ a.n ∧ a.n ≤ M ∧ a.p ≤ s.length ∧ o = numR M a.n (s.drop a.p)

theorem numS_data (o : Option Int) : (numS o).data = true := by cases o <;> rfl

theorem num_loop (s : List UInt8) (M : Int) (hM : 0 ≤ M ∧ M ≤ 4398046511104) (o : Option Int) : ∀ a : SN, a.inv s M o → RunsR Try.prog (fnOf Try.prog 47) (numS o) (loopOf Try.prog 47 0) (slotsS 42 [(0, .str s), (1, I64 M), (6, I64 a.n), (22, .ptr 0 0)]) [some (.iter s a.p)] := by
  refine runsR_of (hK (l := []) trivial) (n := 1000) (hint := .unit) (numS_data o) (fun a : SN => a.inv s M o) (fun a => s.length - a.p) (keepS 42 [0, 1, 6, 22]) (fun _ => loopOf Try.prog 47 0) (fun a => slotsS 42 [(0, .str s), (1, I64 M), (6, I64 a.n), (22, .ptr 0 0)]) (fun a => [some (.iter s a.p)]) (fun _ => num1_p) fun a ha => ?_
  obtain ⟨n, p⟩ := a
  obtain ⟨h0, hn, hp, ho⟩ := ha
  dsimp only at h0 hn hp ho ⊢
  rw [num1]
  unfold num1_t
  simp only [Tree.holds, decide_eq_true_eq, decide_eq_false_iff_not]
  refine ⟨fun h => ?_, fun h => ?_⟩
  · have hb : s[p]? = some s[p] := List.getElem?_eq_getElem h
    generalize s[p] = b at hb
    have hdrop : s.drop p = b :: s.drop (p + 1) := by
      rw [List.drop_eq_getElem_cons h]
      rw [List.getElem?_eq_getElem h] at hb
      injection hb with hb; rw [hb]
    rw [hdrop] at ho
    unfold numR at ho
    have hb8 := b.toNat_lt
    by_cases h128 : b.toNat < 128
    · have er : rn s p = b.toNat := by unfold rn; rw [decode_lo hb h128]
      rw [er, decode_lo hb h128]
      refine ⟨fun c1 => ?_, fun c1 => ⟨fun c2 => ?_, fun c2 => ?_⟩⟩
      · rw [if_neg (by rw [isDig_iff]; omega)] at ho
        rw [ho]; rfl
      · rw [if_neg (by rw [isDig_iff]; omega)] at ho
        rw [ho]; rfl
      · rw [if_pos (by rw [isDig_iff]; omega)] at ho
        have hw : IntKind.i32.wrap ((b.toNat : Int) - 48) = (b.toNat : Int) - 48 := by
          have h3 : IntKind.wrap .i32 ((b.toNat : Int) - 48) = if true && decide (((b.toNat : Int) - 48) % 4294967296 ≥ 2147483648) then ((b.toNat : Int) - 48) % 4294967296 - 4294967296 else ((b.toNat : Int) - 48) % 4294967296 := rfl
          rw [h3]
          simp only [Bool.true_and, decide_eq_true_eq]
          split <;> omega
        rw [hw, wrap64 (x := 10 * n) (by omega) (by omega), wrap64 (x := (b.toNat : Int) - 48) (by omega) (by omega), wrap64 (by omega) (by omega)]
        refine ⟨fun c3 => ?_, fun c3 => ⟨slotsS_len _ _, .inl ?_⟩⟩
        · rw [if_pos c3] at ho
          rw [ho]; rfl
        · rw [if_neg c3] at ho
          exact ⟨⟨10 * n + ((b.toNat : Int) - 48), p + 1⟩, ⟨by dsimp only; omega, by dsimp only; omega, by dsimp only; omega, ho⟩, by dsimp only; omega, by trivial, rfl, rfl⟩
    · have er : 128 ≤ rn s p := by
        have := decode_hi hb (by omega)
        unfold rn; omega
      rw [if_neg (by rw [isDig_iff]; omega)] at ho
      refine ⟨fun c1 => by omega, fun c1 => ⟨fun c2 => ?_, fun c2 => by omega⟩⟩
      rw [ho]; rfl
  · have : s.drop p = [] := List.drop_eq_nil_of_le (by omega)
    rw [this] at ho
    rw [ho]; rfl

theorem bt0 {b : UInt8} {l : List UInt8} : bt (b :: l) 0 = b.toNat := rfl
theorem head48 {b : UInt8} : (b.toNat : Int) = 48 ↔ b = 48 := ⟨fun h => UInt8.toNat_inj.1 (by have : (48 : UInt8).toNat = 48 := rfl; omega), fun h => by subst h; rfl⟩

theorem s_num (s : List UInt8) (M : Int) (hM : 0 ≤ M ∧ M ≤ 4398046511104) : SCall Try.prog 47 [.str s, I64 M] (numS (numV M s)) := by
  refine scallR_loops rfl (numS_data _) (by kernel_rfl) (runsR_seg (hK (l := []) trivial) (n := 1000) (hint := .unit) (keep := keepS 42 [0, 1, 6, 22]) (p := num0_p) (boxes := []) (numS_data _) ?_)
  have e := num0 s M
  unfold startS codeS at e
  erw [e]
  unfold num0_t
  cases s with
  | nil =>
    simp only [Tree.holds]
    exact ⟨fun _ => rfl, fun h => by simp at h⟩
  | cons b l =>
    have go : lead0 (b :: l) = false → RunsR Try.prog (fnOf Try.prog 47) (numS (numV M (b :: l))) (loopOf Try.prog 47 0) (slotsS 42 [(0, .str (b :: l)), (1, I64 M), (6, I64 0), (22, .ptr 0 0)]) [some (.iter (b :: l) 0)] := fun hl =>
      num_loop (b :: l) M hM _ ⟨0, 0⟩ ⟨by dsimp only; omega, hM.1, Nat.zero_le _, by unfold numV; rw [if_neg (by simp [hl])]; rfl⟩
    rw [bt0]
    have hne : ((b :: l) == ([] : List UInt8)) = false := rfl
    rw [hne]
    simp only [Tree.holds, Bool.false_eq_true, false_implies, true_implies, true_and, beq_iff_eq, beq_eq_false_iff_ne, decide_eq_true_eq, decide_eq_false_iff_not, Bool.and_eq_true]
    refine ⟨by simp, fun c1 => ⟨fun c2 => ?_, fun c2 => ⟨slotsS_len _ _, go ?_⟩⟩, fun c1 => ⟨slotsS_len _ _, go ?_⟩⟩
    · rw [head48] at c1; subst c1
      unfold numV
      rw [if_pos (.inr (by simp [lead0]; simp at c2; omega))]; rfl
    · have h2 : decide (1 < (b :: l).length) = false := by rw [decide_eq_false_iff_not]; omega
      rw [lead0, h2, Bool.and_false]
    · have : b ≠ 48 := fun h => c1 (head48.2 h)
      simp [lead0, this]
end Go.Proofs.Ytibpodgdondakaa
