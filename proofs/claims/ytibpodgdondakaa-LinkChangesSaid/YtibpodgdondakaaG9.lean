/-
  G9: contracts of the frames. Written by gen.py.
-/
import Derived.Test.YtibpodgdondakaaG8
set_option linter.unusedSimpArgs false
set_option linter.unusedVariables false
set_option maxRecDepth 100000
namespace Go.Proofs.Ytibpodgdondakaa
open Go.Sx
theorem s_frame (n : Int) (t : List UInt8)(hs : small t = true) : SCall Try.prog 11 [I64 n, .str t] (.tuple [.str (frame n t).1, I64 (frame n t).2]) :=
  scall_v mix [fPlain, fFmt, fMarked] ⟨o_plain, o_fmt, o_marked, trivial⟩ 1000 (.fork (.lit (.lit (.lit (.lit (.lit (.lit (.lit (.all)))))))) (.lit (.lit (.fork (.lit (.lit (.lit (.lit (.all))))) (.lit (.lit (.lit (.fork (.all) (.fork (.all) (.all))))))))))
   (t := .node (decide (n < 1))
 (.leaf (SV.tuple [SV.str [], I64 1]))
 (.node (decide (n > MC))
  (.leaf (SV.tuple [SV.str [], I64 1]))
  (.req (small t) (.node (!plainB t)
    (.leaf (SV.tuple [SV.str [], I64 1]))
    (.node (decide ((↑t.length : Int) > 96))
     (.leaf (SV.tuple [SV.str [], I64 2]))
     (.req (decide (((1 + (fmt n).length : Nat) : Int) ≤ (9223372036854775807 : Int))) (.req (decide (((([78] ++ fmt n).length + 1 : Nat) : Int) ≤ (9223372036854775807 : Int))) (.req (decide (((([78] ++ fmt n ++ [32]).length + t.length : Nat) : Int) ≤ (9223372036854775807 : Int))) (.req (small ([78] ++ fmt n ++ [32] ++ t)) (.leaf (SV.tuple [SV.str ([78] ++ fmt n ++ [32] ++ t ++ [42] ++ fmt (xr ([78] ++ fmt n ++ [32] ++ t))), I64 0])))))))))))
   (by kernel_rfl) (by 
    have h1 := small_iff.1 hs
    have h2 := fmt_len n
    simp only [Tree.holds, decide_eq_true_eq, decide_eq_false_iff_not, Bool.not_eq_true', Bool.not_eq_false', List.length_append, List.length_cons, List.length_nil]
    refine ⟨fun a => ?_, fun a => ⟨fun b => ?_, fun b => ⟨hs, fun c => ?_, fun c => ⟨fun d => ?_, fun d => ⟨by omega, by omega, by omega, ?_, ?_⟩⟩⟩⟩⟩
    · rw [show frame n t = ([], 1) from by unfold frame; rw [if_pos (.inl a)]]
    · rw [show frame n t = ([], 1) from by unfold frame; rw [if_pos (.inr (.inl b))]]
    · rw [show frame n t = ([], 1) from by unfold frame; rw [if_pos (.inr (.inr c))]]
    · rw [show frame n t = ([], 2) from by unfold frame; rw [if_neg (by rw [c]; simp; omega), if_pos d]]
    · rw [small_iff]; simp only [List.length_append, List.length_cons, List.length_nil]; omega
    · rw [show frame n t = ([78] ++ fmt n ++ [32] ++ t ++ [42] ++ fmt (xr ([78] ++ fmt n ++ [32] ++ t)), 0) from by unfold frame; rw [if_neg (by rw [c]; simp; omega), if_neg d]]) (by kernel_rfl) (by kernel_rfl)
theorem s_frameR (n : Int) (t : List UInt8)(hs : small t = true) : SCall Try.prog 12 [I64 n, .str t] (.tuple [.str (frame n t).1, I64 (frame n t).2]) :=
  scall_v mix [fPlainR, fFmtR, fSealed] ⟨o_plainR, o_fmtR, o_sealed, trivial⟩ 1000 (.fork (.lit (.lit (.lit (.lit (.lit (.lit (.lit (.all)))))))) (.lit (.lit (.fork (.lit (.lit (.lit (.lit (.all))))) (.lit (.lit (.lit (.fork (.all) (.fork (.all) (.all))))))))))
   (t := .node (decide (n < 1))
 (.leaf (SV.tuple [SV.str [], I64 1]))
 (.node (decide (n > MC))
  (.leaf (SV.tuple [SV.str [], I64 1]))
  (.req (small t) (.node (!plainB t)
    (.leaf (SV.tuple [SV.str [], I64 1]))
    (.node (decide ((↑t.length : Int) > 96))
     (.leaf (SV.tuple [SV.str [], I64 2]))
     (.req (decide (((1 + (fmt n).length : Nat) : Int) ≤ (9223372036854775807 : Int))) (.req (decide (((([78] ++ fmt n).length + 1 : Nat) : Int) ≤ (9223372036854775807 : Int))) (.req (decide (((([78] ++ fmt n ++ [32]).length + t.length : Nat) : Int) ≤ (9223372036854775807 : Int))) (.req (small ([78] ++ fmt n ++ [32] ++ t)) (.leaf (SV.tuple [SV.str ([78] ++ fmt n ++ [32] ++ t ++ [42] ++ fmt (xr ([78] ++ fmt n ++ [32] ++ t))), I64 0])))))))))))
   (by kernel_rfl) (by 
    have h1 := small_iff.1 hs
    have h2 := fmt_len n
    simp only [Tree.holds, decide_eq_true_eq, decide_eq_false_iff_not, Bool.not_eq_true', Bool.not_eq_false', List.length_append, List.length_cons, List.length_nil]
    refine ⟨fun a => ?_, fun a => ⟨fun b => ?_, fun b => ⟨hs, fun c => ?_, fun c => ⟨fun d => ?_, fun d => ⟨by omega, by omega, by omega, ?_, ?_⟩⟩⟩⟩⟩
    · rw [show frame n t = ([], 1) from by unfold frame; rw [if_pos (.inl a)]]
    · rw [show frame n t = ([], 1) from by unfold frame; rw [if_pos (.inr (.inl b))]]
    · rw [show frame n t = ([], 1) from by unfold frame; rw [if_pos (.inr (.inr c))]]
    · rw [show frame n t = ([], 2) from by unfold frame; rw [if_neg (by rw [c]; simp; omega), if_pos d]]
    · rw [small_iff]; simp only [List.length_append, List.length_cons, List.length_nil]; omega
    · rw [show frame n t = ([78] ++ fmt n ++ [32] ++ t ++ [42] ++ fmt (xr ([78] ++ fmt n ++ [32] ++ t)), 0) from by unfold frame; rw [if_neg (by rw [c]; simp; omega), if_neg d]]) (by kernel_rfl) (by kernel_rfl)
theorem s_open (s : List UInt8)(hs : small s = true) : SCall Try.prog 13 [.str s] (.tuple [I64 (opn s).1, .str (opn s).2.1, I64 (opn s).2.2]) :=
  scall_v mix [fParted, fCut, fPre, fSendable, fNum, fXor] ⟨o_parted, o_cut, o_pre, o_sendable, o_num, o_xor, trivial⟩ 1000 (.fork (.all) (.lit (.lit (.fork (.lit (.lit (.lit (.lit (.lit (.lit (.lit (.lit (.all))))))))) (.lit (.lit (.lit (.lit (.fork (.lit (.lit (.lit (.lit (.all))))) (.lit (.lit (.lit (.fork (.all) (.fork (.lit (.lit (.lit (.all)))) (.lit (.lit (.fork (.all) (.fork (.all) (.all)))))))))))))))))))
   (t := .req (small s) (.node (!cO s)
  (.leaf (SV.tuple [I64 0, SV.str [], I64 5]))
  (.req (small (hd s)) (.node (!cutC (hd s) 32)
    (.leaf (SV.tuple [I64 0, SV.str [], I64 5]))
    (.req (small (cutA (hd s) 32)) (.node (!preN (cutA (hd s) 32))
      (.leaf (SV.tuple [I64 0, SV.str [], I64 5]))
      (.req (small (cutB (hd s) 32)) (.node (!(decide (((cutB (hd s) 32).length : Int) ≤ 96) && plainB (cutB (hd s) 32)))
        (.leaf (SV.tuple [I64 0, SV.str [], I64 5]))
        (.req (true && decide (1 ≤ ((cutA (hd s) 32).length : Int))) (.req (true) (.node (!numO MC (dg s))
           (.leaf (SV.tuple [I64 0, SV.str [], I64 5]))
           (.node (decide (numN MC (dg s) < 1))
            (.leaf (SV.tuple [I64 0, SV.str [], I64 5]))
            (.req (small (hd s)) (.node (cN s != xr (hd s))
              (.leaf (SV.tuple [I64 0, SV.str [], I64 7]))
              (.leaf (SV.tuple [I64 (numN MC (dg s)), SV.str (cutB (hd s) 32), I64 0]))))))))))))))))
   (by kernel_rfl) (by 
    have bad : goodB s = false → SV.tuple [I64 0, .str [], I64 5] = SV.tuple [I64 (opn s).1, .str (opn s).2.1, I64 (opn s).2.2] := fun h => by unfold opn; rw [h]; rfl
    have hh := hd_len s
    have sh := small_le hh hs
    have sA := small_le (cutA_len (hd s) 32) sh
    have sB := small_le (cutB_len (hd s) 32) sh
    simp only [Tree.holds, Bool.not_eq_true', Bool.not_eq_false', decide_eq_true_eq, decide_eq_false_iff_not, Bool.and_eq_true, true_and, bne_iff_ne, bne_eq_false_iff_eq]
    refine ⟨hs, fun a => bad (by simp [goodB, a]), fun a => ⟨sh, fun b => bad (by simp [goodB, b]), fun b => ⟨sA, fun c => bad (by simp [goodB, c]), fun c => ⟨sB, fun d => bad ?_, fun d => ⟨by have := preN_len c; omega, fun e => bad (by simp [goodB, e]), fun e => ⟨fun f => bad ?_, fun f => ⟨sh, fun g => ?_, fun g => ?_⟩⟩⟩⟩⟩⟩⟩
    · simp only [goodB]
      rw [← Bool.and_assoc (decide _), d]; simp
    · simp only [goodB]
      rw [show decide (1 ≤ numN MC (dg s)) = false by rw [decide_eq_false_iff_not]; omega]; simp
    · have hg : goodB s = true := by
        simp only [goodB, a, b, c, e, d.2, Bool.true_and, Bool.and_true, Bool.and_eq_true, decide_eq_true_eq]; omega
      unfold opn; rw [hg, if_pos rfl, if_neg g]
    · have hg : goodB s = true := by
        simp only [goodB, a, b, c, e, d.2, Bool.true_and, Bool.and_true, Bool.and_eq_true, decide_eq_true_eq]; omega
      unfold opn; rw [hg, if_pos rfl, if_pos g]) (by kernel_rfl) (by kernel_rfl)
theorem s_openR (s : List UInt8)(hs : small s = true) : SCall Try.prog 14 [.str s] (.tuple [I64 (opn s).1, .str (opn s).2.1, I64 (opn s).2.2]) :=
  scall_v mix [fSplit, fFind2, fParse, fPlainR, fXorR] ⟨o_split, o_find2, o_parse, o_plainR, o_xorR, trivial⟩ 1000 (.lit (.lit (.fork (.lit (.lit (.lit (.lit (.lit (.lit (.lit (.all)))))))) (.lit (.lit (.fork (.lit (.lit (.lit (.lit (.all))))) (.lit (.lit (.lit (.fork (.all) (.fork (.lit (.lit (.lit (.lit (.lit (.lit (.lit (.lit (.lit (.lit (.lit (.lit (.lit (.lit (.all))))))))))))))) (.lit (.lit (.fork (.lit (.lit (.lit (.lit (.lit (.lit (.lit (.lit (.lit (.lit (.lit (.all)))))))))))) (.lit (.lit (.fork (.lit (.lit (.lit (.lit (.lit (.lit (.lit (.lit (.all))))))))) (.lit (.lit (.lit (.fork (.lit (.lit (.lit (.lit (.all))))) (.lit (.lit (.lit (.fork (.all) (.fork (.all) (.all)))))))))))))))))))))))))))
   (t := .req (small s) (.req (small (hd s)) (.node (!cO s)
   (.leaf (SV.tuple [I64 0, SV.str [], I64 5]))
   (.node (decide (ix (hd s) 32 < 1))
    (.leaf (SV.tuple [I64 0, SV.str [], I64 5]))
    (.req (true && decide (0 < ((hd s).length : Int))) (.node ((bt (hd s) 0) != 78)
      (.leaf (SV.tuple [I64 0, SV.str [], I64 5]))
      (.req (decide (0 ≤ ix (hd s) 32) && decide (ix (hd s) 32 ≤ ((hd s).length : Int)) && true && decide (1 ≤ ix (hd s) 32)) (.req (small (List.drop 1 (List.take (ix (hd s) 32).toNat (hd s)))) (.req (decide (0 ≤ IntKind.i64.wrap (ix (hd s) 32 + 1)) && decide (IntKind.i64.wrap (ix (hd s) 32 + 1) ≤ ((hd s).length : Int))) (.node ((parseV (List.drop 1 (List.take (ix (hd s) 32).toNat (hd s)))).snd != 0)
          (.leaf (SV.tuple [I64 0, SV.str [], I64 5]))
          (.node (decide ((parseV (List.drop 1 (List.take (ix (hd s) 32).toNat (hd s)))).fst < 1))
           (.leaf (SV.tuple [I64 0, SV.str [], I64 5]))
           (.node (decide ((parseV (List.drop 1 (List.take (ix (hd s) 32).toNat (hd s)))).fst > MC))
            (.leaf (SV.tuple [I64 0, SV.str [], I64 5]))
            (.req (small (List.drop (IntKind.i64.wrap (ix (hd s) 32 + 1)).toNat (hd s))) (.node (!plainB (List.drop (IntKind.i64.wrap (ix (hd s) 32 + 1)).toNat (hd s)))
              (.leaf (SV.tuple [I64 0, SV.str [], I64 5]))
              (.node (decide (((List.drop (IntKind.i64.wrap (ix (hd s) 32 + 1)).toNat (hd s)).length : Int) > 96))
               (.leaf (SV.tuple [I64 0, SV.str [], I64 5]))
               (.req (small (hd s)) (.node (xr (hd s) != cP s)
                 (.leaf (SV.tuple [I64 0, SV.str [], I64 7]))
                 (.leaf (SV.tuple [I64 (parseV (List.drop 1 (List.take (ix (hd s) 32).toNat (hd s)))).fst, SV.str (List.drop (IntKind.i64.wrap (ix (hd s) 32 + 1)).toNat (hd s)), I64 0])))))))))))))))))))
   (by kernel_rfl) (by 
    have bad : goodB s = false → SV.tuple [I64 0, .str [], I64 5] = SV.tuple [I64 (opn s).1, .str (opn s).2.1, I64 (opn s).2.2] := fun h => by unfold opn; rw [h]; rfl
    have hh := hd_len s
    have sh := small_le hh hs
    have hl := ix_lt (hd s) 32
    have hg := ix_ge (hd s) 32
    have sh' := small_iff.1 sh
    have hn := numO_iff (M := MC) (by decide) (by decide) (dg s)
    have hnN := fun h => numN_of (M := MC) (by decide) (by decide) (B := dg s) h
    rw [wrap64 (by omega) (by omega)]
    simp only [Tree.holds, Bool.not_eq_true', Bool.not_eq_false', decide_eq_true_eq, decide_eq_false_iff_not, Bool.and_eq_true, true_and, and_true, bne_iff_ne, bne_eq_false_iff_eq]
    refine ⟨hs, sh, fun a => bad (by simp [goodB, a]), fun a => ⟨fun b => bad ?_, fun b => ?_⟩⟩
    · by_cases h0 : ix (hd s) 32 = 0
      · have : cutA (hd s) 32 = [] := by unfold cutA; rw [if_pos (by omega), h0]; rfl
        rw [goodB, this]; simp [preN]
      · have : cutC (hd s) 32 = false := by simp [cutC]; omega
        simp [goodB, this]
    · have hc : cutC (hd s) 32 = true := by simp [cutC]; omega
      obtain ⟨eA, eB, _⟩ := cut_at hc
      have eD : List.drop 1 (List.take (ix (hd s) 32).toNat (hd s)) = dg s := by rw [← eA]; rfl
      rw [← eB, eD]
      have sB := small_le (cutB_len (hd s) 32) sh
      have sD : small (dg s) = true := small_le (by unfold dg; rw [List.length_drop]; have := cutA_len (hd s) 32; omega) sh
      have hp := preN_take (s := hd s) (i := (ix (hd s) 32).toNat) (by omega) (by omega)
      rw [← eA] at hp
      refine ⟨by omega, fun c => bad ?_, fun c => ⟨⟨⟨by omega, by omega⟩, by omega⟩, sD, ⟨by omega, by omega⟩, fun d => bad ?_, fun d => ⟨fun e => bad ?_, fun e => ⟨fun f => bad ?_, fun f => ⟨sB, fun g => bad (by simp [goodB, g]), fun g => ⟨fun h => bad ?_, fun h => ⟨sh, fun k => ?_, fun k => ?_⟩⟩⟩⟩⟩⟩⟩
      · have : preN (cutA (hd s) 32) = false := by rw [← Bool.not_eq_true, hp]; exact c
        simp [goodB, this]
      · have : numO MC (dg s) = false := by rw [← Bool.not_eq_true, hn]; exact fun h => d h.1
        simp [goodB, this]
      · by_cases ho : numO MC (dg s) = true
        · have : decide (1 ≤ numN MC (dg s)) = false := by rw [decide_eq_false_iff_not, hnN ho]; omega
          simp [goodB, this]
        · have : numO MC (dg s) = false := by simpa using ho
          simp [goodB, this]
      · have : numO MC (dg s) = false := by rw [← Bool.not_eq_true, hn]; exact fun h => by omega
        simp [goodB, this]
      · have : decide (((cutB (hd s) 32).length : Int) ≤ 96) = false := by rw [decide_eq_false_iff_not]; omega
        simp [goodB, this]
      all_goals
        have ho : numO MC (dg s) = true := hn.2 ⟨d, by omega, by omega⟩
        have hgd : goodB s = true := by
          simp only [goodB, a, hc, hp.2 c, g, ho, hnN ho, Bool.true_and, Bool.and_true, Bool.and_eq_true, decide_eq_true_eq]; omega
        have ec := cO_same a
        unfold opn
      · rw [hgd, if_pos rfl, if_neg (by rw [ec]; exact fun h => k h.symm)]
      · rw [hgd, if_pos rfl, if_pos (by rw [ec]; exact k.symm), hnN ho]) (by kernel_rfl) (by kernel_rfl)
def fFrame : Fact := ⟨11, fun args => match args with
  | [.int .i64 n, .str t] => some (.req (small t) (.leaf (.tuple [.str (frame n t).1, I64 (frame n t).2])))
  | _ => none⟩
theorem o_frame : fFrame.ok Try.prog := fun args t ht => by
  simp only [fFrame] at ht
  split at ht
  · injection ht with ht; subst ht; exact s_frame _ _
  · cases ht
def fFrameR : Fact := ⟨12, fun args => match args with
  | [.int .i64 n, .str t] => some (.req (small t) (.leaf (.tuple [.str (frame n t).1, I64 (frame n t).2])))
  | _ => none⟩
theorem o_frameR : fFrameR.ok Try.prog := fun args t ht => by
  simp only [fFrameR] at ht
  split at ht
  · injection ht with ht; subst ht; exact s_frameR _ _
  · cases ht
def fOpen : Fact := factL 13 fun s => .leaf (.tuple [I64 (opn s).1, .str (opn s).2.1, I64 (opn s).2.2])
theorem o_open : fOpen.ok Try.prog := factL_ok s_open
def fOpenR : Fact := factL 14 fun s => .leaf (.tuple [I64 (opn s).1, .str (opn s).2.1, I64 (opn s).2.2])
theorem o_openR : fOpenR.ok Try.prog := factL_ok s_openR
def fAwake : Fact := fact0 15 (.leaf (.bool true))
end Go.Proofs.Ytibpodgdondakaa
