/-
  G8: the texts of commands: both programs write the same.
-/
import Derived.Test.YtkmohnciiincmaaG7
set_option linter.unusedSimpArgs false
set_option linter.unusedVariables false
set_option maxRecDepth 100000
namespace Go.Proofs.Ytkmohnciiincmaa
open Go.Sx

def wordT (c : C) (i : Int) : List UInt8 := if bit c.has i = 1 then sp ++ letter (i + 1) i ++ fmt (c.num i) else []
def words (c : C) : Nat → List UInt8
  | 0 => []
  | n + 1 => wordT c (5 - n) ++ words c n
theorem words_step (c : C) {i : Int} (h : 0 ≤ i) (h6 : i < 6) : words c (6 - i).toNat = wordT c i ++ words c (6 - (i + 1)).toNat := by
  obtain ⟨n, hn⟩ : ∃ n : Nat, (6 - i).toNat = n + 1 := ⟨(5 - i).toNat, by omega⟩
  rw [hn, show (6 - (i + 1)).toNat = n by omega, words, show (5 : Int) - n = i by omega]
def C.text (c : C) : List UInt8 := nameOf c.code ++ words c 6
def printV (ok : Bool) (c : C) : SV := if ok then .tuple [.str c.text, I64 0] else .tuple [.str [], I64 1]

theorem letter_len (j i : Int) : (letter j i).length ≤ 6 := by
  unfold letter
  rw [List.length_drop, List.length_take]
  have : letters.length = 6 := rfl
  omega
theorem name_len (k : Int) : (nameOf k).length ≤ 22 := by
  have h1 := fmt_len k
  have h2 := fmt_len (IntKind.i64.wrap (k - 1000))
  unfold nameOf
  split <;> simp <;> omega
theorem wordT_len (c : C) (i : Int) : (wordT c i).length ≤ 28 := by
  have h1 := letter_len (i + 1) i
  have h2 := fmt_len (c.num i)
  unfold wordT
  split
  · simp only [List.length_append]; have : sp.length = 1 := rfl; omega
  · simp

noncomputable def stP (c : C) (s : List UInt8) (i : Int) : Stop := Stop.at (loopOf Try.prog 10 0) 36 (slotsS 36 [(1, SV.ptr 0 0), (4, SV.str s), (12, I64 i)]) [some (Box.cells c.cells)]
noncomputable def stPR (c : C) (s : List UInt8) (i : Int) : Stop := Stop.at (loopOf Try.prog 11 0) 42 (slotsS 42 [(1, SV.ptr 0 0), (4, SV.str s), (5, SV.list (Ty.int IntKind.i64) [c.x, c.y, c.z, c.e, c.f, c.s]), (6, I64 i)]) [some (Box.cells c.cells)]

theorem print_leaves {c : C} {s : List UInt8} {i : Int} (h0 : 0 ≤ i) (hs : (s.length : Int) ≤ 1000) (Q : Stop → Prop) (q0 : 6 ≤ i → Q (.done (.tuple [.str s, I64 0]))) (q2 : i < 6 → Q (stP c (s ++ wordT c i) (i + 1))) : (print1_t c s i).holds Q := by
  unfold print1_t
  have eb : IntKind.i64.wrap ↑(BitVec.ofInt IntKind.i64.bits (c.has.fdiv (2 ^ min i.toNat IntKind.i64.bits)) &&& BitVec.ofInt IntKind.i64.bits 1).toNat = bit c.has i := rfl
  rw [eb]
  have hl : ((letters.length : Nat) : Int) = 6 := rfl
  have hsp : sp.length = 1 := rfl
  by_cases h6 : i < 6
  · rw [wrap64 (by omega) (by omega), hl]
    have ll := letter_len (i + 1) i
    have q2 := q2 h6
    unfold stP C.cells at q2
    have key : ∀ n, c.num i = n → bit c.has i = 1 → (Tree.req (decide (((((sp ++ (letter (i + 1) i)).length + (fmt n).length : Nat)) : Int) ≤ (9223372036854775807 : Int))) (.req (decide ((((s.length + (sp ++ (letter (i + 1) i) ++ fmt n).length : Nat)) : Int) ≤ (9223372036854775807 : Int))) (.leaf (Stop.at (loopOf Try.prog 10 0) 36 (slotsS 36 [(1, SV.ptr 0 0), (4, SV.str (s ++ (sp ++ (letter (i + 1) i) ++ fmt n))), (12, I64 (i + 1))]) [some (Box.cells [I64 c.code, I64 c.has, I64 c.x, I64 c.y, I64 c.z, I64 c.e, I64 c.f, I64 c.s])])))).holds Q := by
      intro n hn hb
      have hf := fmt_len n
      unfold wordT at q2
      rw [if_pos hb, hn] at q2
      simp only [Tree.holds, decide_eq_true_eq, List.length_append]
      exact ⟨by omega, by omega, q2⟩
    simp only [Tree.holds, decide_eq_true_eq, decide_eq_false_iff_not, beq_iff_eq, beq_eq_false_iff_ne, Bool.and_eq_true] at key ⊢
    refine ⟨fun _ => ⟨h0, fun hb => ⟨⟨⟨⟨by omega, by omega⟩, h0⟩, by omega⟩, by omega, ?_, fun n0 => ⟨?_, fun n1 => ⟨?_, fun n2 => ⟨?_, fun n3 => ⟨?_, fun n4 => ?_⟩⟩⟩⟩⟩, fun hb => ?_⟩, fun h => absurd h6 h⟩
    · rintro rfl; exact key _ (num0 c) hb
    · rintro rfl; exact key _ (num1 c) hb
    · rintro rfl; exact key _ (num2 c) hb
    · rintro rfl; exact key _ (num3 c) hb
    · rintro rfl; exact key _ (num4 c) hb
    · obtain rfl : i = 5 := by omega
      exact key _ (num5 c) hb
    · unfold wordT at q2
      rw [if_neg hb, List.append_nil] at q2
      exact q2
  · simp only [Tree.holds, decide_eq_true_eq, decide_eq_false_iff_not]
    exact ⟨fun h => absurd h h6, fun _ => q0 (by omega)⟩

theorem printR_leaves {c : C} {s : List UInt8} {i : Int} (h0 : 0 ≤ i) (hle : i ≤ 6) (hs : (s.length : Int) ≤ 1000) (Q : Stop → Prop) (q0 : 6 ≤ i → Q (.done (.tuple [.str s, I64 0]))) (q2 : i < 6 → Q (stPR c (s ++ wordT c i) (i + 1))) : (printR1_t c s i).holds Q := by
  unfold printR1_t
  have hl6 : (([c.x, c.y, c.z, c.e, c.f, c.s].length : Nat) : Int) = 6 := rfl
  rw [u64_small ⟨h0, by omega⟩, hl6]
  have eb : IntKind.i64.wrap ↑(BitVec.ofInt IntKind.i64.bits (c.has.fdiv (2 ^ min i.toNat IntKind.i64.bits)) &&& BitVec.ofInt IntKind.i64.bits 1).toNat = bit c.has i := rfl
  rw [eb]
  have hl : ((letters.length : Nat) : Int) = 6 := rfl
  have hsp : sp.length = 1 := rfl
  by_cases h6 : i < 6
  · rw [wrap64 (by omega) (by omega), hl, nums_get c h0 h6]
    have ll := letter_len (i + 1) i
    have hf := fmt_len (c.num i)
    have q2 := q2 h6
    unfold stPR C.cells wordT at q2
    simp only [Tree.holds, decide_eq_true_eq, decide_eq_false_iff_not, beq_iff_eq, beq_eq_false_iff_ne, Bool.and_eq_true, List.length_append]
    refine ⟨fun _ => ⟨h0, fun hb => ⟨⟨⟨⟨by omega, by omega⟩, h0⟩, by omega⟩, by omega, ⟨h0, h6⟩, by omega, by omega, ?_⟩, fun hb => ?_⟩, fun h => absurd h6 h⟩
    · rw [if_pos hb] at q2; exact q2
    · rw [if_neg hb, List.append_nil] at q2; exact q2
  · simp only [Tree.holds, decide_eq_true_eq, decide_eq_false_iff_not]
    exact ⟨fun h => absurd h h6, fun _ => q0 (by omega)⟩

theorem fsP : allOk Try.prog [fValid, fName, fField, fFmt] := ⟨o_valid, o_name, o_field, o_fmt, trivial⟩
theorem fsPR : allOk Try.prog [fValidR, fNameR, fFields, fFmtR] := ⟨o_validR, o_nameR, o_fields, o_fmtR, trivial⟩

structure SP where
  s : List UInt8
  i : Int
def SP.inv (c : C) (T : List UInt8) (x : SP) : Prop := 0 ≤ x.i ∧ x.i ≤ 6 ∧ (x.s.length : Int) ≤ 22 + 28 * x.i ∧ T = x.s ++ words c (6 - x.i).toNat

theorem print_loop (c : C) (T : List UInt8) : ∀ x : SP, x.inv c T → RunsR Try.prog (fnOf Try.prog 10) (.tuple [.str T, I64 0]) (loopOf Try.prog 10 0) (slotsS 36 [(1, .ptr 0 0), (4, .str x.s), (12, I64 x.i)]) [some (.cells c.cells)] := by
  refine runsR_of (hK fsP) (n := 1000) (hint := .unit) rfl (fun x : SP => x.inv c T) (fun x => (6 - x.i).toNat) (keepS 36 [1, 4, 12]) (fun _ => loopOf Try.prog 10 0) (fun x => slotsS 36 [(1, .ptr 0 0), (4, .str x.s), (12, I64 x.i)]) (fun _ => [some (.cells c.cells)]) (fun _ => print1_p) fun x hx => ?_
  obtain ⟨s, i⟩ := x
  obtain ⟨h0, h6, hl, hT⟩ := hx
  dsimp only at h0 h6 hl hT ⊢
  rw [print1]
  refine print_leaves h0 (by omega) _ (fun h => ?_) (fun h => ?_)
  · show SV.tuple [SV.str s, I64 0] = SV.tuple [SV.str T, I64 0]
    rw [hT, show (6 - i).toNat = 0 by omega]; simp [words]
  · have := wordT_len c i
    refine ⟨slotsS_len _ _, .inl ⟨⟨s ++ wordT c i, i + 1⟩, ⟨by dsimp only; omega, by dsimp only; omega, by dsimp only; rw [List.length_append]; omega, ?_⟩, by dsimp only; omega, rfl, rfl, rfl⟩⟩
    dsimp only; rw [hT, words_step c h0 h, List.append_assoc]

theorem printR_loop (c : C) (T : List UInt8) : ∀ x : SP, x.inv c T → RunsR Try.prog (fnOf Try.prog 11) (.tuple [.str T, I64 0]) (loopOf Try.prog 11 0) (slotsS 42 [(1, .ptr 0 0), (4, .str x.s), (5, .list (.int .i64) [c.x, c.y, c.z, c.e, c.f, c.s]), (6, I64 x.i)]) [some (.cells c.cells)] := by
  refine runsR_of (hK fsPR) (n := 1000) (hint := .unit) rfl (fun x : SP => x.inv c T) (fun x => (6 - x.i).toNat) (keepS 42 [1, 4, 5, 6]) (fun _ => loopOf Try.prog 11 0) (fun x => slotsS 42 [(1, .ptr 0 0), (4, .str x.s), (5, .list (.int .i64) [c.x, c.y, c.z, c.e, c.f, c.s]), (6, I64 x.i)]) (fun _ => [some (.cells c.cells)]) (fun _ => printR1_p) fun x hx => ?_
  obtain ⟨s, i⟩ := x
  obtain ⟨h0, h6, hl, hT⟩ := hx
  dsimp only at h0 h6 hl hT ⊢
  rw [printR1]
  refine printR_leaves h0 h6 (by omega) _ (fun h => ?_) (fun h => ?_)
  · show SV.tuple [SV.str s, I64 0] = SV.tuple [SV.str T, I64 0]
    rw [hT, show (6 - i).toNat = 0 by omega]; simp [words]
  · have := wordT_len c i
    refine ⟨slotsS_len _ _, .inl ⟨⟨s ++ wordT c i, i + 1⟩, ⟨by dsimp only; omega, by dsimp only; omega, by dsimp only; rw [List.length_append]; omega, ?_⟩, by dsimp only; omega, rfl, rfl, rfl⟩⟩
    dsimp only; rw [hT, words_step c h0 h, List.append_assoc]

theorem print_start (c : C) : SP.inv c c.text ⟨nameOf c.code, 0⟩ := by
  have := name_len c.code
  exact ⟨by dsimp only; omega, by dsimp only; omega, by dsimp only; omega, rfl⟩

theorem printV_data (ok : Bool) (c : C) : (printV ok c).data = true := by cases ok <;> rfl

theorem s_print (c : C) : SCall Try.prog 10 [c.sv] (printV c.valid c) := by
  refine scallR_loops rfl (printV_data _ _) (by kernel_rfl) (runsR_seg (hK fsP) (n := 1000) (hint := .unit) (keep := keepS 36 [1, 4, 12]) (p := print0_p) (boxes := []) (printV_data _ _) ?_)
  have e := print0 c
  unfold startS codeS at e
  erw [e]
  unfold print0_t
  simp only [Tree.holds, Bool.not_eq_true', Bool.not_eq_false']
  refine ⟨fun h => ?_, fun h => ⟨slotsS_len _ _, ?_⟩⟩
  · rw [h]; rfl
  · rw [h]; exact print_loop c c.text ⟨nameOf c.code, 0⟩ (print_start c)

theorem s_printR (c : C) : SCall Try.prog 11 [c.sv] (printV c.validR c) := by
  refine scallR_loops rfl (printV_data _ _) (by kernel_rfl) (runsR_seg (hK fsPR) (n := 1000) (hint := .unit) (keep := keepS 42 [1, 4, 5, 6]) (p := printR0_p) (boxes := []) (printV_data _ _) ?_)
  have e := printR0 c
  unfold startS codeS at e
  erw [e]
  unfold printR0_t
  simp only [Tree.holds, Bool.not_eq_true', Bool.not_eq_false']
  refine ⟨fun h => ?_, fun h => ⟨slotsS_len _ _, ?_⟩⟩
  · rw [h]; rfl
  · rw [h]; exact printR_loop c c.text ⟨nameOf c.code, 0⟩ (print_start c)

def fPrint : Fact := factC 10 fun c => .node c.valid (.leaf (.tuple [.str c.text, I64 0])) (.leaf (.tuple [.str [], I64 1]))
def fPrintR : Fact := factC 11 fun c => .node c.validR (.leaf (.tuple [.str c.text, I64 0])) (.leaf (.tuple [.str [], I64 1]))
theorem o_print : fPrint.ok Try.prog := factC_ok fun c => ⟨fun h => by have := s_print c; rw [h] at this; exact this, fun h => by have := s_print c; rw [h] at this; exact this⟩
theorem o_printR : fPrintR.ok Try.prog := factC_ok fun c => ⟨fun h => by have := s_printR c; rw [h] at this; exact this, fun h => by have := s_printR c; rw [h] at this; exact this⟩
end Go.Proofs.Ytkmohnciiincmaa
