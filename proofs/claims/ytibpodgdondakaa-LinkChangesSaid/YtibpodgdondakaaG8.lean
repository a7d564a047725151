/-
  G8: contracts of the cutting. Written by gen.py.
-/
import Derived.Test.YtibpodgdondakaaG7
set_option linter.unusedSimpArgs false
set_option linter.unusedVariables false
set_option maxRecDepth 100000
namespace Go.Proofs.Ytibpodgdondakaa
open Go.Sx
theorem s_cut42 (s : List UInt8)(hs : small s = true) : SCall Try.prog 44 [.str s, .str [42]] (.tuple [.str (cutA s 42), .str (cutB s 42), .bool (cutC s 42)]) :=
  scall_v mix [fIx] ⟨o_ix, trivial⟩ 1000 (.lit (.lit (.lit (.lit (.fork (.lit (.all)) (.lit (.fork (.all) (.all))))))))
   (t := .node ([42] == s)
 (.req (true && decide (0 ≤ (↑s.length : Int))) (.req (true && decide (1 ≤ (↑s.length : Int))) (.leaf (SV.tuple [SV.str (List.take 0 s), SV.str (List.drop 1 s), SV.bool true]))))
 (.req (true) (.node (decide (ix s 42 ≥ 0))
   (.req (decide (0 ≤ ix s 42) && decide (ix s 42 ≤ (↑s.length : Int))) (.req (decide (0 ≤ IntKind.i64.wrap (ix s 42 + 1)) && decide (IntKind.i64.wrap (ix s 42 + 1) ≤ (↑s.length : Int))) (.leaf (SV.tuple [SV.str (List.take (ix s 42).toNat s), SV.str (List.drop (IntKind.i64.wrap (ix s 42 + 1)).toNat s), SV.bool true]))))
   (.leaf (SV.tuple [SV.str s, SV.str [], SV.bool false])))))
   (by kernel_rfl) (by 
    have hl := ix_lt s 42
    have hg := ix_ge s 42
    have hs := small_iff.1 hs
    simp only [Tree.holds, Bool.and_eq_true, decide_eq_true_eq, decide_eq_false_iff_not, beq_iff_eq, true_and]
    refine ⟨fun h => ?_, fun h => ⟨fun h2 => ⟨⟨h2, by omega⟩, ⟨by rw [wrap64 (by omega) (by omega)]; omega, by rw [wrap64 (by omega) (by omega)]; omega⟩, ?_⟩, fun h2 => ?_⟩⟩
    · subst h; exact ⟨by decide, by decide, rfl⟩
    · rw [wrap64 (by omega) (by omega)]
      unfold cutA cutB cutC
      rw [if_pos h2, if_pos h2, decide_eq_true h2]
    · unfold cutA cutB cutC
      rw [if_neg h2, if_neg h2, decide_eq_false h2]) (by kernel_rfl) (by kernel_rfl)
theorem s_cut32 (s : List UInt8)(hs : small s = true) : SCall Try.prog 44 [.str s, .str [32]] (.tuple [.str (cutA s 32), .str (cutB s 32), .bool (cutC s 32)]) :=
  scall_v mix [fIx] ⟨o_ix, trivial⟩ 1000 (.lit (.lit (.lit (.lit (.fork (.lit (.all)) (.lit (.fork (.all) (.all))))))))
   (t := .node ([32] == s)
 (.req (true && decide (0 ≤ (↑s.length : Int))) (.req (true && decide (1 ≤ (↑s.length : Int))) (.leaf (SV.tuple [SV.str (List.take 0 s), SV.str (List.drop 1 s), SV.bool true]))))
 (.req (true) (.node (decide (ix s 32 ≥ 0))
   (.req (decide (0 ≤ ix s 32) && decide (ix s 32 ≤ (↑s.length : Int))) (.req (decide (0 ≤ IntKind.i64.wrap (ix s 32 + 1)) && decide (IntKind.i64.wrap (ix s 32 + 1) ≤ (↑s.length : Int))) (.leaf (SV.tuple [SV.str (List.take (ix s 32).toNat s), SV.str (List.drop (IntKind.i64.wrap (ix s 32 + 1)).toNat s), SV.bool true]))))
   (.leaf (SV.tuple [SV.str s, SV.str [], SV.bool false])))))
   (by kernel_rfl) (by 
    have hl := ix_lt s 32
    have hg := ix_ge s 32
    have hs := small_iff.1 hs
    simp only [Tree.holds, Bool.and_eq_true, decide_eq_true_eq, decide_eq_false_iff_not, beq_iff_eq, true_and]
    refine ⟨fun h => ?_, fun h => ⟨fun h2 => ⟨⟨h2, by omega⟩, ⟨by rw [wrap64 (by omega) (by omega)]; omega, by rw [wrap64 (by omega) (by omega)]; omega⟩, ?_⟩, fun h2 => ?_⟩⟩
    · subst h; exact ⟨by decide, by decide, rfl⟩
    · rw [wrap64 (by omega) (by omega)]
      unfold cutA cutB cutC
      rw [if_pos h2, if_pos h2, decide_eq_true h2]
    · unfold cutA cutB cutC
      rw [if_neg h2, if_neg h2, decide_eq_false h2]) (by kernel_rfl) (by kernel_rfl)
theorem s_pre (s : List UInt8)(hs : small s = true) : SCall Try.prog 45 [.str s, .str [78]] (.bool (preN s)) :=
  scall_v mix [] trivial 1000 (.fork (.lit (.lit (.lit (.lit (.lit (.lit (.all))))))) (.lit (.lit (.lit (.lit (.lit (.lit (.all))))))))
   (t := .node (decide ((↑s.length : Int) ≥ 1))
 (.req (true && decide (1 ≤ (↑s.length : Int))) (.leaf (SV.bool (List.take 1 s == [78]))))
 (.leaf (SV.bool false)))
   (by kernel_rfl) (by 
    simp only [Tree.holds, Bool.and_eq_true, decide_eq_true_eq, decide_eq_false_iff_not, true_and]
    refine ⟨fun h => ⟨h, ?_⟩, fun h => ?_⟩
    · cases s with
      | nil => simp at h
      | cons b l => rw [pre_eq]
    · have : s = [] := List.eq_nil_of_length_eq_zero (by omega)
      subst this; rfl) (by kernel_rfl) (by kernel_rfl)
theorem o_cut : fCut.ok Try.prog := fun args t ht => by
  simp only [fCut] at ht
  split at ht
  · rename_i a b
    injection ht with ht; subst ht
    refine fun hs => ⟨fun h => ?_, fun _ => ⟨fun h => ?_, fun _ => trivial⟩⟩
    · rw [beq_iff_eq] at h; subst h; exact s_cut42 a hs
    · rw [beq_iff_eq] at h; subst h; exact s_cut32 a hs
  · cases ht
theorem o_pre : fPre.ok Try.prog := fun args t ht => by
  simp only [fPre] at ht
  split at ht
  · rename_i a b
    injection ht with ht; subst ht
    refine fun hs => ⟨fun h => ?_, fun _ => trivial⟩
    rw [beq_iff_eq] at h; subst h; exact s_pre a hs
  · cases ht
theorem s_short (s : List UInt8) : SCall Try.prog 10 [.str s] (.str (s.take 120)) :=
  scall_v mix [] trivial 1000 (.fork (.all) (.all))
   (t := .node (decide ((↑s.length : Int) > 120))
 (.req (true && decide (120 ≤ (↑s.length : Int))) (.leaf (SV.str (List.take 120 s))))
 (.leaf (SV.str s)))
   (by kernel_rfl) (by 
    simp only [Tree.holds, Bool.and_eq_true, decide_eq_true_eq, decide_eq_false_iff_not, true_and]
    refine ⟨fun h => ⟨by omega, trivial⟩, fun h => ?_⟩
    rw [List.take_of_length_le (by omega)]) (by kernel_rfl) (by kernel_rfl)
theorem s_parted (s : List UInt8)(hs : small s = true) : SCall Try.prog 43 [.str s] (.tuple [.str (if cutC s 42 then cutA s 42 else []), I64 (if cutC s 42 then numN 255 (cutB s 42) else 0), .bool (cutC s 42 && numO 255 (cutB s 42))]) :=
  scall_v mix [fCut, fNum] ⟨o_cut, o_num, trivial⟩ 1000 (.lit (.fork (.all) (.all)))
   (t := .req (small s) (.node (!cutC s 42)
  (.leaf (SV.tuple [SV.str [], I64 0, SV.bool false]))
  (.req (true) (.leaf (SV.tuple [SV.str (cutA s 42), I64 (numN 255 (cutB s 42)), SV.bool (numO 255 (cutB s 42))])))))
   (by kernel_rfl) (by 
    simp only [Tree.holds, Bool.not_eq_true', Bool.not_eq_false', true_and]
    refine ⟨hs, fun h => ?_, fun h => ?_⟩
    · simp [h]
    · simp [h]) (by kernel_rfl) (by kernel_rfl)
theorem s_sendable (s : List UInt8)(hs : small s = true) : SCall Try.prog 46 [.str s] (.bool (decide ((s.length : Int) ≤ 96) && plainB s)) :=
  scall_v mix [fPlain] ⟨o_plain, trivial⟩ 1000 (.fork (.lit (.lit (.all))) (.lit (.lit (.all))))
   (t := .node (decide ((↑s.length : Int) ≤ 96))
 (.req (small s) (.leaf (SV.bool (plainB s))))
 (.leaf (SV.bool false)))
   (by kernel_rfl) (by 
    simp only [Tree.holds, decide_eq_true_eq, decide_eq_false_iff_not]
    refine ⟨fun h => ⟨hs, ?_⟩, fun h => ?_⟩
    · simp [h]
    · simp [h]) (by kernel_rfl) (by kernel_rfl)
theorem s_marked (s : List UInt8)(hs : small s = true) : SCall Try.prog 38 [.str s] (.str (s ++ [42] ++ fmt (xr s))) :=
  scall_v mix [fXor, fFmt] ⟨o_xor, o_fmt, trivial⟩ 1000 (.all)
   (t := .req (decide (((s.length + 1 : Nat) : Int) ≤ (9223372036854775807 : Int))) (.req (small s) (.req (decide ((((s ++ [42]).length + (fmt (xr s)).length : Nat) : Int) ≤ (9223372036854775807 : Int))) (.leaf (SV.str (s ++ [42] ++ fmt (xr s)))))))
   (by kernel_rfl) (by 
    have h1 := small_iff.1 hs
    have h2 := fmt_len (xr s)
    simp only [Tree.holds, decide_eq_true_eq, List.length_append, List.length_cons, List.length_nil]
    exact ⟨by omega, hs, by omega, trivial⟩) (by kernel_rfl) (by kernel_rfl)
theorem s_sealed (s : List UInt8)(hs : small s = true) : SCall Try.prog 41 [.str s] (.str (s ++ [42] ++ fmt (xr s))) :=
  scall_v mix [fXorR, fFmtR] ⟨o_xorR, o_fmtR, trivial⟩ 1000 (.all)
   (t := .req (decide (((s.length + 1 : Nat) : Int) ≤ (9223372036854775807 : Int))) (.req (small s) (.req (decide ((((s ++ [42]).length + (fmt (xr s)).length : Nat) : Int) ≤ (9223372036854775807 : Int))) (.leaf (SV.str (s ++ [42] ++ fmt (xr s)))))))
   (by kernel_rfl) (by 
    have h1 := small_iff.1 hs
    have h2 := fmt_len (xr s)
    simp only [Tree.holds, decide_eq_true_eq, List.length_append, List.length_cons, List.length_nil]
    exact ⟨by omega, hs, by omega, trivial⟩) (by kernel_rfl) (by kernel_rfl)
theorem s_split (s : List UInt8)(hs : small s = true) : SCall Try.prog 49 [.str s] (.tuple [.str (if cutC s 42 then cutA s 42 else []), I64 (if cutC s 42 then (parseV (cutB s 42)).1 else 0), .bool (cutC s 42 && numO 255 (cutB s 42))]) :=
  scall_v mix [fFind2, fParse] ⟨o_find2, o_parse, trivial⟩ 1000 (.lit (.fork (.all) (.fork (.lit (.lit (.fork (.lit (.lit (.all))) (.lit (.lit (.all)))))) (.lit (.lit (.lit (.lit (.lit (.all)))))))))
   (t := .req (small s) (.node (decide (ix s 42 < 0))
  (.leaf (SV.tuple [SV.str [], I64 0, SV.bool false]))
  (.req (decide (0 ≤ IntKind.i64.wrap (ix s 42 + 1)) && decide (IntKind.i64.wrap (ix s 42 + 1) ≤ (↑s.length : Int))) (.req (small (List.drop (IntKind.i64.wrap (ix s 42 + 1)).toNat s)) (.req (decide (0 ≤ ix s 42) && decide (ix s 42 ≤ (↑s.length : Int))) (.node ((parseV (List.drop (IntKind.i64.wrap (ix s 42 + 1)).toNat s)).snd == 0)
      (.node (decide ((parseV (List.drop (IntKind.i64.wrap (ix s 42 + 1)).toNat s)).fst ≥ 0))
       (.leaf (SV.tuple [SV.str (List.take (ix s 42).toNat s), I64 (parseV (List.drop (IntKind.i64.wrap (ix s 42 + 1)).toNat s)).fst, SV.bool (decide ((parseV (List.drop (IntKind.i64.wrap (ix s 42 + 1)).toNat s)).fst ≤ 255))]))
       (.leaf (SV.tuple [SV.str (List.take (ix s 42).toNat s), I64 (parseV (List.drop (IntKind.i64.wrap (ix s 42 + 1)).toNat s)).fst, SV.bool false])))
      (.leaf (SV.tuple [SV.str (List.take (ix s 42).toNat s), I64 (parseV (List.drop (IntKind.i64.wrap (ix s 42 + 1)).toNat s)).fst, SV.bool false]))))))))
   (by kernel_rfl) (by 
    have hl := ix_lt s 42
    have hg := ix_ge s 42
    have hs' := small_iff.1 hs
    rw [wrap64 (by omega) (by omega)]
    simp only [Tree.holds, Bool.and_eq_true, decide_eq_true_eq, decide_eq_false_iff_not, beq_iff_eq, beq_eq_false_iff_ne]
    refine ⟨hs, fun h => ?_, fun h => ⟨⟨by omega, by omega⟩, ?_, ⟨by omega, by omega⟩, ?_⟩⟩
    · have : cutC s 42 = false := by simp [cutC]; omega
      simp [this]
    · exact small_le (by rw [List.length_drop]; omega) hs
    · have hc : cutC s 42 = true := by simp [cutC]; omega
      obtain ⟨a, b, _⟩ := cut_at hc
      rw [hc, ← a, ← b]
      simp only [if_true, Bool.true_and]
      have hn := numO_iff (M := 255) (by omega) (by omega) (cutB s 42)
      have bad : ¬ ((parseV (cutB s 42)).2 = 0 ∧ 0 ≤ (parseV (cutB s 42)).1 ∧ (parseV (cutB s 42)).1 ≤ 255) → numO 255 (cutB s 42) = false := fun h => by rw [← Bool.not_eq_true, hn]; exact h
      refine ⟨fun e0 => ⟨fun e1 => ?_, fun e1 => ?_⟩, fun e0 => ?_⟩
      · by_cases e2 : (parseV (cutB s 42)).1 ≤ 255
        · rw [hn.2 ⟨e0, by omega, e2⟩, decide_eq_true e2]
        · rw [bad (fun h => e2 h.2.2), decide_eq_false e2]
      · rw [bad (fun h => e1 (by omega))]
      · rw [bad (fun h => e0 h.1)]) (by kernel_rfl) (by kernel_rfl)
def fShort : Fact := factS 10 fun s => .leaf (.str (s.take 120))
theorem o_short : fShort.ok Try.prog := factS_ok s_short
def fParted : Fact := factL 43 fun s => .leaf (.tuple [.str (hd s), I64 (cN s), .bool (cO s)])
theorem o_parted : fParted.ok Try.prog := factL_ok s_parted
def fSplit : Fact := factL 49 fun s => .leaf (.tuple [.str (hd s), I64 (cP s), .bool (cO s)])
theorem o_split : fSplit.ok Try.prog := factL_ok s_split
def fSendable : Fact := factL 46 fun s => .leaf (.bool (decide ((s.length : Int) ≤ 96) && plainB s))
theorem o_sendable : fSendable.ok Try.prog := factL_ok s_sendable
def fMarked : Fact := factL 38 fun s => .leaf (.str (s ++ [42] ++ fmt (xr s)))
theorem o_marked : fMarked.ok Try.prog := factL_ok s_marked
def fSealed : Fact := factL 41 fun s => .leaf (.str (s ++ [42] ++ fmt (xr s)))
theorem o_sealed : fSealed.ok Try.prog := factL_ok s_sealed
end Go.Proofs.Ytibpodgdondakaa
