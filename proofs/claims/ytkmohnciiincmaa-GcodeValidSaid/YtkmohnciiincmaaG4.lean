/-
  G4: the checks of commands: their loops by descent, and why both say the same.
-/
import Derived.Test.YtkmohnciiincmaaG3
set_option linter.unusedSimpArgs false
set_option linter.unusedVariables false
set_option maxRecDepth 100000
namespace Go.Proofs.Ytkmohnciiincmaa
open Go.Sx

/-- Bit i of a number, as the code reads it. -/
def bit (h i : Int) : Int := IntKind.i64.wrap ↑(BitVec.ofInt IntKind.i64.bits (h.fdiv (2 ^ min i.toNat IntKind.i64.bits)) &&& BitVec.ofInt IntKind.i64.bits 1).toNat
def andNot (h m : Int) : Int := IntKind.i64.wrap ↑(BitVec.ofInt IntKind.i64.bits h &&& ~~~BitVec.ofInt IntKind.i64.bits m).toNat

theorem bit_01 (h i : Int) : bit h i = 0 ∨ bit h i = 1 := by
  unfold bit
  generalize BitVec.ofInt IntKind.i64.bits (h.fdiv (2 ^ min i.toNat IntKind.i64.bits)) = x
  have e : (x &&& BitVec.ofInt IntKind.i64.bits 1).toNat = x.toNat % 2 := by
    rw [BitVec.toNat_and]
    exact Nat.and_one_is_mod _
  rw [e]
  have h2 : x.toNat % 2 = 0 ∨ x.toNat % 2 = 1 := by omega
  rcases h2 with h2 | h2 <;> rw [h2]
  · exact .inl rfl
  · exact .inr rfl

theorem u64_small {i : Int} (h : 0 ≤ i ∧ i ≤ 100) : IntKind.u64.wrap i = i := by
  have h2 : IntKind.wrap .u64 i = if false && decide (i % 18446744073709551616 ≥ 9223372036854775808) then i % 18446744073709551616 - 18446744073709551616 else i % 18446744073709551616 := rfl
  rw [h2]
  simp only [Bool.false_and, Bool.false_eq_true, if_false]
  omega

/-- Is word i as it must be? -/
def okW (c : C) (i : Int) : Bool := if bit c.has i = 0 then c.num i == 0 else inR (c.num i) (lo c.code i) (hi c.code i)
/-- .. and all the words behind it, so many? -/
def rest (c : C) : Nat → Bool
  | 0 => true
  | n + 1 => okW c (5 - n) && rest c n
theorem rest_step (c : C) {i : Int} (h : 0 ≤ i) (h6 : i < 6) : rest c (6 - i).toNat = (okW c i && rest c (6 - (i + 1)).toNat) := by
  obtain ⟨n, hn⟩ : ∃ n : Nat, (6 - i).toNat = n + 1 := ⟨(5 - i).toNat, by omega⟩
  rw [hn, show (6 - (i + 1)).toNat = n by omega, rest, show (5 : Int) - n = i by omega]

def C.pre (c : C) : Bool := okC c.code && (andNot c.has (may c.code) == 0 && !(allW c.code && !(c.has == may c.code)))
def C.preR (c : C) : Bool := okC c.code && (decide (0 ≤ c.has) && (andNot c.has (may c.code) == 0 && (!(may c.code == 32) || c.has == 32)))
def C.valid (c : C) : Bool := c.pre && rest c 6
def C.validR (c : C) : Bool := c.preR && rest c 6

noncomputable def stV (c : C) (i : Int) : Stop := Stop.at (loopOf Try.prog 7 0) 64 (slotsS 64 [(1, SV.ptr 0 0), (35, I64 i)]) [some (Box.cells c.cells)]
noncomputable def stVR (c : C) (i : Int) : Stop := Stop.at (loopOf Try.prog 8 0) 70 (slotsS 70 [(1, SV.ptr 0 0), (3, SV.list (Ty.int IntKind.i64) [c.x, c.y, c.z, c.e, c.f, c.s]), (4, I64 i)]) [some (Box.cells c.cells)]

theorem inR_false {n l h : Int} : inR n l h = false ↔ n < l ∨ h < n := by
  rw [← Bool.not_eq_true, inR, Bool.and_eq_true, decide_eq_true_eq, decide_eq_true_eq]; omega
theorem inR_true {n l h : Int} : inR n l h = true ↔ l ≤ n ∧ n ≤ h := by
  rw [inR, Bool.and_eq_true, decide_eq_true_eq, decide_eq_true_eq]

theorem num0 (c : C) : c.num 0 = c.x := rfl
theorem num1 (c : C) : c.num 1 = c.y := rfl
theorem num2 (c : C) : c.num 2 = c.z := rfl
theorem num3 (c : C) : c.num 3 = c.e := rfl
theorem num4 (c : C) : c.num 4 = c.f := rfl
theorem num5 (c : C) : c.num 5 = c.s := rfl

theorem okW_ok {c : C} {i n : Int} (hn : c.num i = n) : (okW c i = true ↔ (bit c.has i = 0 ∧ n = 0) ∨ (bit c.has i ≠ 0 ∧ lo c.code i ≤ n ∧ n ≤ hi c.code i)) := by
  unfold okW
  rw [hn]
  by_cases h : bit c.has i = 0
  · simp [h]
  · simp [h, inR_true]

theorem valid_leaves {c : C} {i : Int} (h0 : 0 ≤ i) (Q : Stop → Prop) (q0 : 6 ≤ i → Q (.done (.bool true))) (q1 : i < 6 → ¬ okW c i = true → Q (.done (.bool false))) (q2 : i < 6 → okW c i = true → Q (stV c (i + 1))) : (valid1_t c i).holds Q := by
  have wi : i < 6 → IntKind.i64.wrap (i + 1) = i + 1 := fun h => wrap64 (by omega) (by omega)
  have eb : IntKind.i64.wrap ↑(BitVec.ofInt IntKind.i64.bits (c.has.fdiv (2 ^ min i.toNat IntKind.i64.bits)) &&& BitVec.ofInt IntKind.i64.bits 1).toNat = bit c.has i := rfl
  unfold valid1_t
  rw [eb]
  unfold stV C.cells at q2
  have key : ∀ n, c.num i = n → i < 6 → (Tree.node (bit c.has i == 0)
      (.node (decide (n < 0)) (.leaf (Stop.done (SV.bool false))) (.node (decide (n > 0)) (.leaf (Stop.done (SV.bool false))) (.leaf (Stop.at (loopOf Try.prog 7 0) 64 (slotsS 64 [(1, SV.ptr 0 0), (35, I64 (IntKind.i64.wrap (i + 1)))]) [some (Box.cells [I64 c.code, I64 c.has, I64 c.x, I64 c.y, I64 c.z, I64 c.e, I64 c.f, I64 c.s])]))))
      (.node (decide (n < lo c.code i)) (.leaf (Stop.done (SV.bool false))) (.node (decide (n > hi c.code i)) (.leaf (Stop.done (SV.bool false))) (.leaf (Stop.at (loopOf Try.prog 7 0) 64 (slotsS 64 [(1, SV.ptr 0 0), (35, I64 (IntKind.i64.wrap (i + 1)))]) [some (Box.cells [I64 c.code, I64 c.has, I64 c.x, I64 c.y, I64 c.z, I64 c.e, I64 c.f, I64 c.s])]))))).holds Q := by
    intro n hn h6
    have ok := okW_ok (c := c) hn
    rw [wi h6]
    simp only [Tree.holds, beq_iff_eq, beq_eq_false_iff_ne, decide_eq_true_eq, decide_eq_false_iff_not]
    repeat' (first | apply And.intro | intro _)
    all_goals first
      | (refine q1 h6 ?_; rw [ok]; omega)
      | (refine q2 h6 ?_; rw [ok]; omega)
  simp only [Tree.holds, beq_iff_eq, beq_eq_false_iff_ne, decide_eq_true_eq, decide_eq_false_iff_not] at key ⊢
  refine ⟨fun h6 => ⟨?_, fun n0 => ⟨?_, fun n1 => ⟨?_, fun n2 => ⟨?_, fun n3 => ⟨?_, fun n4 => ?_⟩⟩⟩⟩⟩, fun h => q0 (by omega)⟩
  · rintro rfl; exact ⟨h0, key _ (num0 c) h6⟩
  · rintro rfl; exact ⟨h0, key _ (num1 c) h6⟩
  · rintro rfl; exact ⟨h0, key _ (num2 c) h6⟩
  · rintro rfl; exact ⟨h0, key _ (num3 c) h6⟩
  · rintro rfl; exact ⟨h0, key _ (num4 c) h6⟩
  · obtain rfl : i = 5 := by omega
    exact ⟨h0, key _ (num5 c) h6⟩

theorem fsV : allOk Try.prog [fWords, fSpan, fField] := ⟨o_words, o_span, o_field, trivial⟩


theorem valid_loop (c : C) (v : Bool) : ∀ i : Int, (0 ≤ i ∧ i ≤ 6 ∧ v = rest c (6 - i).toNat) → RunsR Try.prog (fnOf Try.prog 7) (.bool v) (loopOf Try.prog 7 0) (slotsS 64 [(1, .ptr 0 0), (35, I64 i)]) [some (.cells c.cells)] := by
  refine runsR_of (hK fsV) (n := 1000) (hint := .unit) rfl (fun i : Int => 0 ≤ i ∧ i ≤ 6 ∧ v = rest c (6 - i).toNat) (fun i => (6 - i).toNat) (keepS 64 [1, 35]) (fun _ => loopOf Try.prog 7 0) (fun i => slotsS 64 [(1, .ptr 0 0), (35, I64 i)]) (fun _ => [some (.cells c.cells)]) (fun _ => valid1_p) fun i hi => ?_
  obtain ⟨h0, h6, hv⟩ := hi
  rw [valid1]
  refine valid_leaves h0 _ (fun h => ?_) (fun h hw => ?_) (fun h hw => ?_)
  · show SV.bool true = SV.bool v
    rw [hv, show (6 - i).toNat = 0 by omega]; rfl
  · show SV.bool false = SV.bool v
    rw [hv, rest_step c h0 h]
    simp [hw]
  · refine ⟨slotsS_len _ _, .inl ⟨i + 1, ⟨by omega, by omega, ?_⟩, by omega, rfl, rfl, rfl⟩⟩
    rw [hv, rest_step c h0 h, hw, Bool.true_and]

theorem s_valid (c : C) : SCall Try.prog 7 [c.sv] (.bool c.valid) := by
  refine scallR_loops rfl rfl (by kernel_rfl) (runsR_seg (hK fsV) (n := 1000) (hint := .unit) (keep := keepS 64 [1, 35]) (p := valid0_p) (boxes := []) rfl ?_)
  have e := valid0 c
  unfold startS codeS at e
  erw [e]
  unfold valid0_t
  have ea : IntKind.i64.wrap ↑(BitVec.ofInt IntKind.i64.bits c.has &&& ~~~BitVec.ofInt IntKind.i64.bits (may c.code)).toNat = andNot c.has (may c.code) := rfl
  rw [ea]
  simp only [Tree.holds, Bool.not_eq_true', Bool.not_eq_false', bne_iff_ne, bne_eq_false_iff_eq]
  refine ⟨fun h => ?_, fun h => ⟨fun h2 => ?_, fun h2 => ⟨fun h3 => ⟨fun h4 => ?_, fun h4 => ?_⟩, fun h3 => ?_⟩⟩⟩
  · simp [C.valid, C.pre, h]
  · simp [C.valid, C.pre, h, h2]
  · simp [C.valid, C.pre, h, h2, h3, h4]
  · exact ⟨slotsS_len _ _, valid_loop c _ 0 ⟨by omega, by omega, by
      have : c.pre = true := by
        simp only [C.pre, h, h3, h2]
        rw [show (c.has == may c.code) = true by simpa using h4]; rfl
      rw [C.valid, this, Bool.true_and]; rfl⟩⟩
  · exact ⟨slotsS_len _ _, valid_loop c _ 0 ⟨by omega, by omega, by simp [C.valid, C.pre, h, h2, h3]⟩⟩

/-! ### The document's check -/

theorem okC_codes (k : Int) : okC k = true ↔ k ∈ codes := by
  have : okC k = true ↔ (k = 0 ∨ (k = 1 ∨ (oneS k ∨ none0 k))) := by simp [okC]
  rw [this]
  unfold oneS none0 codes
  simp only [List.mem_cons, List.not_mem_nil, or_false]
  omega

theorem known_loop (k : Int) : ∀ i : Int, (0 ≤ i ∧ i ≤ 14 ∧ ∀ j : Nat, (j : Int) < i → codes.getD j 0 ≠ k) → RunsR Try.prog (fnOf Try.prog 16) (.bool (okC k)) (loopOf Try.prog 16 0) (slotsS 18 [(0, I64 k), (3, .list (.int .i64) codes), (4, I64 i)]) [] := by
  refine runsR_of (hK (l := [fCodes]) ⟨o_codes, trivial⟩) (n := 1000) (hint := .unit) rfl (fun i : Int => 0 ≤ i ∧ i ≤ 14 ∧ ∀ j : Nat, (j : Int) < i → codes.getD j 0 ≠ k) (fun i => (14 - i).toNat) (keepS 18 [0, 3, 4]) (fun _ => loopOf Try.prog 16 0) (fun i => slotsS 18 [(0, I64 k), (3, .list (.int .i64) codes), (4, I64 i)]) (fun _ => []) (fun _ => known1_p) fun i hi => ?_
  obtain ⟨h0, h14, hj⟩ := hi
  rw [known1]
  unfold known1_t
  have hl : ((codes.length : Nat) : Int) = 14 := rfl
  have hget : ∀ j : Nat, codes.getD j (Ty.dflt (Ty.int IntKind.i64)) = codes.getD j 0 := fun _ => rfl
  rw [hl, hget]
  simp only [Tree.holds, decide_eq_true_eq, decide_eq_false_iff_not, beq_iff_eq, beq_eq_false_iff_ne, Bool.and_eq_true]
  refine ⟨fun h => ⟨⟨h0, h⟩, fun hk => ?_, fun hk => ?_⟩, fun h => ?_⟩
  · show SV.bool true = SV.bool (okC k)
    have : okC k = true := by
      rw [okC_codes, ← hk]
      have hlt : i.toNat < codes.length := by have : codes.length = 14 := rfl; omega
      rw [List.getD_eq_getElem?_getD, List.getElem?_eq_getElem hlt]
      exact List.getElem_mem hlt
    rw [this]
  · rw [wrap64 (by omega) (by omega)]
    refine ⟨slotsS_len _ _, .inl ⟨i + 1, ⟨by omega, by omega, fun j hj1 => ?_⟩, by omega, by trivial, by trivial, by trivial⟩⟩
    by_cases hji : (j : Int) < i
    · exact hj j hji
    · obtain rfl : j = i.toNat := by omega
      exact hk
  · show SV.bool false = SV.bool (okC k)
    have : okC k = false := by
      rw [← Bool.not_eq_true, okC_codes]
      intro hm
      obtain ⟨j, hj2⟩ := List.getElem?_of_mem hm
      have hlt : j < codes.length := (List.getElem?_eq_some_iff.1 hj2).1
      have h14' : codes.length = 14 := rfl
      refine hj j (by omega) ?_
      rw [List.getD_eq_getElem?_getD, hj2]; rfl
    rw [this]

theorem s_known (k : Int) : SCall Try.prog 16 [I64 k] (.bool (okC k)) := by
  refine scallR_loops rfl rfl (by kernel_rfl) (runsR_seg (hK (l := [fCodes]) ⟨o_codes, trivial⟩) (n := 1000) (hint := .unit) (keep := keepS 18 [0, 3, 4]) (p := known0_p) (boxes := []) rfl ?_)
  have e := known0 k
  unfold startS codeS at e
  erw [e]
  exact ⟨slotsS_len _ _, known_loop k 0 ⟨by omega, by omega, fun j hj => by omega⟩⟩
theorem o_known : fKnown.ok Try.prog := factI_ok s_known
theorem fsVR : allOk Try.prog [fKnown, fAllowed, fComplete, fFields, fRanged] := ⟨o_known, o_allowed, o_complete, o_fields, o_ranged, trivial⟩

theorem rangedB_eq (k n : Int) {i : Int} (h0 : 0 ≤ i) (h6 : i < 6) : rangedB k i n = inR n (lo k i) (hi k i) := by
  unfold rangedB lo hi
  have : i = 0 ∨ i = 1 ∨ i = 2 ∨ i = 3 ∨ i = 4 ∨ i = 5 := by omega
  rcases this with rfl | rfl | rfl | rfl | rfl | rfl <;> simp <;> (repeat' split) <;> rfl

theorem nums_get (c : C) {i : Int} (h0 : 0 ≤ i) (h6 : i < 6) : [c.x, c.y, c.z, c.e, c.f, c.s].getD i.toNat (Ty.dflt (Ty.int IntKind.i64)) = c.num i := by
  have : i = 0 ∨ i = 1 ∨ i = 2 ∨ i = 3 ∨ i = 4 ∨ i = 5 := by omega
  rcases this with rfl | rfl | rfl | rfl | rfl | rfl <;> rfl

theorem validR_leaves {c : C} {i : Int} (h0 : 0 ≤ i) (hle : i ≤ 6) (Q : Stop → Prop) (q0 : 6 ≤ i → Q (.done (.bool true))) (q1 : i < 6 → ¬ okW c i = true → Q (.done (.bool false))) (q2 : i < 6 → okW c i = true → Q (stVR c (i + 1))) : (validR1_t c i).holds Q := by
  have hl : (([c.x, c.y, c.z, c.e, c.f, c.s].length : Nat) : Int) = 6 := rfl
  unfold validR1_t
  rw [hl, u64_small ⟨h0, by omega⟩]
  have eb : IntKind.i64.wrap ↑(BitVec.ofInt IntKind.i64.bits (c.has.fdiv (2 ^ min i.toNat IntKind.i64.bits)) &&& BitVec.ofInt IntKind.i64.bits 1).toNat = bit c.has i := rfl
  rw [eb]
  by_cases h6 : i < 6
  · rw [wrap64 (by omega) (by omega), nums_get c h0 h6, rangedB_eq _ _ h0 h6]
    have ok := okW_ok (c := c) (i := i) rfl
    have b01 := bit_01 c.has i
    unfold stVR C.cells at q2
    simp only [Tree.holds, beq_iff_eq, beq_eq_false_iff_ne, bne_iff_ne, bne_eq_false_iff_eq, decide_eq_true_eq, decide_eq_false_iff_not, Bool.and_eq_true, Bool.not_eq_true', Bool.not_eq_false', inR_true, inR_false]
    repeat' (first | apply And.intro | intro _)
    all_goals first
      | omega
      | (refine q1 h6 ?_; rw [ok]; omega)
      | (refine q2 h6 ?_; rw [ok]; omega)
  · simp only [Tree.holds, decide_eq_true_eq, decide_eq_false_iff_not]
    exact ⟨fun h => absurd h h6, fun _ => q0 (by omega)⟩

theorem validR_loop (c : C) (v : Bool) : ∀ i : Int, (0 ≤ i ∧ i ≤ 6 ∧ v = rest c (6 - i).toNat) → RunsR Try.prog (fnOf Try.prog 8) (.bool v) (loopOf Try.prog 8 0) (slotsS 70 [(1, .ptr 0 0), (3, .list (.int .i64) [c.x, c.y, c.z, c.e, c.f, c.s]), (4, I64 i)]) [some (.cells c.cells)] := by
  refine runsR_of (hK fsVR) (n := 1000) (hint := .unit) rfl (fun i : Int => 0 ≤ i ∧ i ≤ 6 ∧ v = rest c (6 - i).toNat) (fun i => (6 - i).toNat) (keepS 70 [1, 3, 4]) (fun _ => loopOf Try.prog 8 0) (fun i => slotsS 70 [(1, .ptr 0 0), (3, .list (.int .i64) [c.x, c.y, c.z, c.e, c.f, c.s]), (4, I64 i)]) (fun _ => [some (.cells c.cells)]) (fun _ => validR1_p) fun i hi => ?_
  obtain ⟨h0, h6, hv⟩ := hi
  rw [validR1]
  refine validR_leaves h0 h6 _ (fun h => ?_) (fun h hw => ?_) (fun h hw => ?_)
  · show SV.bool true = SV.bool v
    rw [hv, show (6 - i).toNat = 0 by omega]; rfl
  · show SV.bool false = SV.bool v
    rw [hv, rest_step c h0 h]
    simp [hw]
  · refine ⟨slotsS_len _ _, .inl ⟨i + 1, ⟨by omega, by omega, ?_⟩, by omega, rfl, rfl, rfl⟩⟩
    rw [hv, rest_step c h0 h, hw, Bool.true_and]

theorem s_validR (c : C) : SCall Try.prog 8 [c.sv] (.bool c.validR) := by
  refine scallR_loops rfl rfl (by kernel_rfl) (runsR_seg (hK fsVR) (n := 1000) (hint := .unit) (keep := keepS 70 [1, 3, 4]) (p := validR0_p) (boxes := []) rfl ?_)
  have e := validR0 c
  unfold startS codeS at e
  erw [e]
  unfold validR0_t
  have ea : IntKind.i64.wrap ↑(BitVec.ofInt IntKind.i64.bits c.has &&& ~~~BitVec.ofInt IntKind.i64.bits (may c.code)).toNat = andNot c.has (may c.code) := rfl
  rw [ea]
  simp only [Tree.holds, Bool.not_eq_true', Bool.not_eq_false', bne_iff_ne, bne_eq_false_iff_eq, decide_eq_true_eq, decide_eq_false_iff_not]
  refine ⟨fun h => ?_, fun h => ⟨fun h1 => ?_, fun h1 => ⟨fun h2 => ?_, fun h2 => ⟨fun h3 => ?_, fun h3 => ?_⟩⟩⟩⟩
  · simp [C.validR, C.preR, h]
  · simp [C.validR, C.preR, h, show ¬ 0 ≤ c.has by omega]
  · simp [C.validR, C.preR, h, h2]
  · simp only [C.validR, C.preR, h3]; simp
  · exact ⟨slotsS_len _ _, validR_loop c _ 0 ⟨by omega, by omega, by simp only [C.validR, C.preR, h, h2, h3, show (decide (0 ≤ c.has)) = true by simp; omega]; simp⟩⟩

/-! ### Both say the same -/

theorem wrap_zero {x : BitVec 64} (h : IntKind.i64.wrap (x.toNat : Int) = 0) : x = 0#64 := by
  have hx := x.isLt
  have h2 : IntKind.wrap .i64 (x.toNat : Int) = if true && decide ((x.toNat : Int) % 18446744073709551616 ≥ 9223372036854775808) then (x.toNat : Int) % 18446744073709551616 - 18446744073709551616 else (x.toNat : Int) % 18446744073709551616 := rfl
  rw [h2] at h
  simp only [Bool.true_and, decide_eq_true_eq] at h
  have : x.toNat = 0 := by split at h <;> omega
  exact BitVec.eq_of_toNat_eq (by simpa using this)

theorem msb_of {h : Int} (h1 : -9223372036854775808 ≤ h) (h2 : h ≤ 9223372036854775807) : (BitVec.ofInt 64 h).msb = decide (h < 0) := by
  rw [BitVec.msb_eq_toInt, BitVec.toInt_ofInt]
  congr 1
  rw [Int.bmod_eq_of_le (by omega) (by omega)]

theorem andNot_zero {h m : Int} (h1 : -9223372036854775808 ≤ h) (h2 : h ≤ 9223372036854775807) (hm : 0 ≤ m) (hm2 : m ≤ 100) (ha : andNot h m = 0) : 0 ≤ h ∧ (m = 0 → h = 0) := by
  have hx : BitVec.ofInt 64 h &&& ~~~BitVec.ofInt 64 m = 0#64 := wrap_zero ha
  constructor
  · have hb : (BitVec.ofInt 64 h &&& ~~~BitVec.ofInt 64 m).msb = false := by rw [hx]; rfl
    rw [BitVec.msb_and, BitVec.msb_not, msb_of h1 h2, msb_of (by omega) (by omega)] at hb
    have : ¬ m < 0 := by omega
    simpa [this] using hb
  · rintro rfl
    have e : (~~~BitVec.ofInt 64 0) = BitVec.allOnes 64 := by rfl
    rw [e, BitVec.and_allOnes] at hx
    have h3 : (BitVec.ofInt 64 h).toInt = 0 := by rw [hx]; rfl
    rw [BitVec.toInt_ofInt, Int.bmod_eq_of_le (by omega) (by omega)] at h3
    exact h3

theorem valid_eq {c : C} (h1 : -9223372036854775808 ≤ c.has) (h2 : c.has ≤ 9223372036854775807) : c.valid = c.validR := by
  have key : c.pre = c.preR := by
    rw [Bool.eq_iff_iff]
    have hm : may c.code = 0 ∨ may c.code = 23 ∨ may c.code = 31 ∨ may c.code = 32 := by
      unfold may; (repeat' split) <;> simp
    have hmay := andNot_zero h1 h2 (m := may c.code) (by omega) (by omega)
    simp only [C.pre, C.preR, Bool.and_eq_true, Bool.or_eq_true, Bool.not_eq_true', beq_iff_eq, beq_eq_false_iff_ne, decide_eq_true_eq, Bool.and_eq_false_iff, Bool.not_eq_false']
    have ha : allW c.code = true ↔ (oneS c.code ∨ none0 c.code) := by simp [allW]
    have hs : may c.code = 32 ↔ oneS c.code := by
      unfold may oneS; (repeat' split) <;> omega
    have hn : none0 c.code → may c.code = 0 := by
      intro hn; unfold none0 at hn; unfold may oneS; (repeat' split) <;> omega
    constructor
    · rintro ⟨a, b, d⟩
      refine ⟨a, (hmay b).1, b, ?_⟩
      by_cases h32 : may c.code = 32
      · right
        rcases d with d | d
        · exact absurd (ha.2 (.inl (hs.1 h32))) (by rw [d]; simp)
        · rw [d, h32]
      · exact .inl h32
    · rintro ⟨a, _, b, d⟩
      refine ⟨a, b, ?_⟩
      by_cases hw : allW c.code = true
      · right
        rcases ha.1 hw with h | h
        · have := hs.2 h
          rcases d with d | d
          · exact absurd this d
          · rw [this, d]
        · rw [hn h]; exact (hmay b).2 (hn h)
      · exact .inl (by simpa using hw)
  rw [C.valid, C.validR, key]
end Go.Proofs.Ytkmohnciiincmaa
