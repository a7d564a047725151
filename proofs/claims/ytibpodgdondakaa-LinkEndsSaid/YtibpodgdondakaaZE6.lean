/-
  G9: contracts of the frames. Written by gen.py.
  GB: what is framed is opened again.
  GA: contracts of the device, and the laws. Written by gen.py.
  GC: slices copied. Written by gen.py.
  GD: a copy of a slice is the slice, as data: nil, empty or not.
  GE: hosts in plain words.
  GF: the segments of the hosts. Written by gen.py.
  GI: hosts: few lines, and the start.
  GJ: the segments of hosts that are looked at. Written by gen.py.
  GL: valid hosts, and hosts that are the same.
  GM: canonical decimals, and answers in plain words.
  GO: what is done with hosts, in plain words.
  GK: contracts of hosts. Written by gen.py.
  GP: contracts of Again, and facts on hosts with more.
-/
import Derived.Test.YtibpodgdondakaaZE5
set_option linter.unusedSimpArgs false
set_option linter.unusedVariables false
set_option maxRecDepth 100000
namespace Go.Proofs.Ytibpodgdondakaa
open Go.Sx
theorem s_frame (n : Int) (t : List UInt8)(hs : small t = true) : SCall Try.prog 11 [I64 n, .str t] (.tuple [.str (frame n t).1, I64 (frame n t).2]) :=
  scall_v mix [fPlain, fFmt, fMarked] ⟨o_plain, o_fmt, o_marked, trivial⟩ 1000 (.fork (.lit (.lit (.lit (.lit (.lit (.lit (.lit (.all)))))))) (.lit (.lit (.fork (.lit (.lit (.lit (.lit (.all))))) (.lit (.lit (.lit (.fork (.all) (.fork (.all) (.all))))))))))
   (t := .node (decide (n < 1))
 (.leaf (SV.tuple [SV.str [], I64 1]))
 (.node (decide (n > MC))
  (.leaf (SV.tuple [SV.str [], I64 1]))
  (.req (small t) (.node (!plainB t)
    (.leaf (SV.tuple [SV.str [], I64 1]))
    (.node (decide ((↑t.length : Int) > 96))
     (.leaf (SV.tuple [SV.str [], I64 2]))
     (.req (decide (((1 + (fmt n).length : Nat) : Int) ≤ (9223372036854775807 : Int))) (.req (decide (((([78] ++ fmt n).length + 1 : Nat) : Int) ≤ (9223372036854775807 : Int))) (.req (decide (((([78] ++ fmt n ++ [32]).length + t.length : Nat) : Int) ≤ (9223372036854775807 : Int))) (.req (small ([78] ++ fmt n ++ [32] ++ t)) (.leaf (SV.tuple [SV.str ([78] ++ fmt n ++ [32] ++ t ++ [42] ++ fmt (xr ([78] ++ fmt n ++ [32] ++ t))), I64 0])))))))))))
   (by kernel_rfl) (by 
    have h1 := small_iff.1 hs
    have h2 := fmt_len n
    simp only [Tree.holds, decide_eq_true_eq, decide_eq_false_iff_not, Bool.not_eq_true', Bool.not_eq_false', List.length_append, List.length_cons, List.length_nil]
    refine ⟨fun a => ?_, fun a => ⟨fun b => ?_, fun b => ⟨hs, fun c => ?_, fun c => ⟨fun d => ?_, fun d => ⟨by omega, by omega, by omega, ?_, ?_⟩⟩⟩⟩⟩
    · rw [show frame n t = ([], 1) from by unfold frame; rw [if_pos (.inl a)]]
    · rw [show frame n t = ([], 1) from by unfold frame; rw [if_pos (.inr (.inl b))]]
    · rw [show frame n t = ([], 1) from by unfold frame; rw [if_pos (.inr (.inr c))]]
    · rw [show frame n t = ([], 2) from by unfold frame; rw [if_neg (by rw [c]; simp; omega), if_pos d]]
    · rw [small_iff]; simp only [List.length_append, List.length_cons, List.length_nil]; omega
    · rw [show frame n t = ([78] ++ fmt n ++ [32] ++ t ++ [42] ++ fmt (xr ([78] ++ fmt n ++ [32] ++ t)), 0) from by unfold frame; rw [if_neg (by rw [c]; simp; omega), if_neg d]]) (by kernel_rfl) (by kernel_rfl)
theorem s_frameR (n : Int) (t : List UInt8)(hs : small t = true) : SCall Try.prog 12 [I64 n, .str t] (.tuple [.str (frame n t).1, I64 (frame n t).2]) :=
  scall_v mix [fPlainR, fFmtR, fSealed] ⟨o_plainR, o_fmtR, o_sealed, trivial⟩ 1000 (.fork (.lit (.lit (.lit (.lit (.lit (.lit (.lit (.all)))))))) (.lit (.lit (.fork (.lit (.lit (.lit (.lit (.all))))) (.lit (.lit (.lit (.fork (.all) (.fork (.all) (.all))))))))))
   (t := .node (decide (n < 1))
 (.leaf (SV.tuple [SV.str [], I64 1]))
 (.node (decide (n > MC))
  (.leaf (SV.tuple [SV.str [], I64 1]))
  (.req (small t) (.node (!plainB t)
    (.leaf (SV.tuple [SV.str [], I64 1]))
    (.node (decide ((↑t.length : Int) > 96))
     (.leaf (SV.tuple [SV.str [], I64 2]))
     (.req (decide (((1 + (fmt n).length : Nat) : Int) ≤ (9223372036854775807 : Int))) (.req (decide (((([78] ++ fmt n).length + 1 : Nat) : Int) ≤ (9223372036854775807 : Int))) (.req (decide (((([78] ++ fmt n ++ [32]).length + t.length : Nat) : Int) ≤ (9223372036854775807 : Int))) (.req (small ([78] ++ fmt n ++ [32] ++ t)) (.leaf (SV.tuple [SV.str ([78] ++ fmt n ++ [32] ++ t ++ [42] ++ fmt (xr ([78] ++ fmt n ++ [32] ++ t))), I64 0])))))))))))
   (by kernel_rfl) (by 
    have h1 := small_iff.1 hs
    have h2 := fmt_len n
    simp only [Tree.holds, decide_eq_true_eq, decide_eq_false_iff_not, Bool.not_eq_true', Bool.not_eq_false', List.length_append, List.length_cons, List.length_nil]
    refine ⟨fun a => ?_, fun a => ⟨fun b => ?_, fun b => ⟨hs, fun c => ?_, fun c => ⟨fun d => ?_, fun d => ⟨by omega, by omega, by omega, ?_, ?_⟩⟩⟩⟩⟩
    · rw [show frame n t = ([], 1) from by unfold frame; rw [if_pos (.inl a)]]
    · rw [show frame n t = ([], 1) from by unfold frame; rw [if_pos (.inr (.inl b))]]
    · rw [show frame n t = ([], 1) from by unfold frame; rw [if_pos (.inr (.inr c))]]
    · rw [show frame n t = ([], 2) from by unfold frame; rw [if_neg (by rw [c]; simp; omega), if_pos d]]
    · rw [small_iff]; simp only [List.length_append, List.length_cons, List.length_nil]; omega
    · rw [show frame n t = ([78] ++ fmt n ++ [32] ++ t ++ [42] ++ fmt (xr ([78] ++ fmt n ++ [32] ++ t)), 0) from by unfold frame; rw [if_neg (by rw [c]; simp; omega), if_neg d]]) (by kernel_rfl) (by kernel_rfl)
theorem s_open (s : List UInt8)(hs : small s = true) : SCall Try.prog 13 [.str s] (.tuple [I64 (opn s).1, .str (opn s).2.1, I64 (opn s).2.2]) :=
  scall_v mix [fParted, fCut, fPre, fSendable, fNum, fXor] ⟨o_parted, o_cut, o_pre, o_sendable, o_num, o_xor, trivial⟩ 1000 (.fork (.all) (.lit (.lit (.fork (.lit (.lit (.lit (.lit (.lit (.lit (.lit (.lit (.all))))))))) (.lit (.lit (.lit (.lit (.fork (.lit (.lit (.lit (.lit (.all))))) (.lit (.lit (.lit (.fork (.all) (.fork (.lit (.lit (.lit (.all)))) (.lit (.lit (.fork (.all) (.fork (.all) (.all)))))))))))))))))))
   (t := .req (small s) (.node (!cO s)
  (.leaf (SV.tuple [I64 0, SV.str [], I64 5]))
  (.req (small (hd s)) (.node (!cutC (hd s) 32)
    (.leaf (SV.tuple [I64 0, SV.str [], I64 5]))
    (.req (small (cutA (hd s) 32)) (.node (!preN (cutA (hd s) 32))
      (.leaf (SV.tuple [I64 0, SV.str [], I64 5]))
      (.req (small (cutB (hd s) 32)) (.node (!(decide (((cutB (hd s) 32).length : Int) ≤ 96) && plainB (cutB (hd s) 32)))
        (.leaf (SV.tuple [I64 0, SV.str [], I64 5]))
        (.req (true && decide (1 ≤ ((cutA (hd s) 32).length : Int))) (.req (true) (.node (!numO MC (dg s))
           (.leaf (SV.tuple [I64 0, SV.str [], I64 5]))
           (.node (decide (numN MC (dg s) < 1))
            (.leaf (SV.tuple [I64 0, SV.str [], I64 5]))
            (.req (small (hd s)) (.node (cN s != xr (hd s))
              (.leaf (SV.tuple [I64 0, SV.str [], I64 7]))
              (.leaf (SV.tuple [I64 (numN MC (dg s)), SV.str (cutB (hd s) 32), I64 0]))))))))))))))))
   (by kernel_rfl) (by 
    have bad : goodB s = false → SV.tuple [I64 0, .str [], I64 5] = SV.tuple [I64 (opn s).1, .str (opn s).2.1, I64 (opn s).2.2] := fun h => by unfold opn; rw [h]; rfl
    have hh := hd_len s
    have sh := small_le hh hs
    have sA := small_le (cutA_len (hd s) 32) sh
    have sB := small_le (cutB_len (hd s) 32) sh
    simp only [Tree.holds, Bool.not_eq_true', Bool.not_eq_false', decide_eq_true_eq, decide_eq_false_iff_not, Bool.and_eq_true, true_and, bne_iff_ne, bne_eq_false_iff_eq]
    refine ⟨hs, fun a => bad (by simp [goodB, a]), fun a => ⟨sh, fun b => bad (by simp [goodB, b]), fun b => ⟨sA, fun c => bad (by simp [goodB, c]), fun c => ⟨sB, fun d => bad ?_, fun d => ⟨by have := preN_len c; omega, fun e => bad (by simp [goodB, e]), fun e => ⟨fun f => bad ?_, fun f => ⟨sh, fun g => ?_, fun g => ?_⟩⟩⟩⟩⟩⟩⟩
    · simp only [goodB]
      rw [← Bool.and_assoc (decide _), d]; simp
    · simp only [goodB]
      rw [show decide (1 ≤ numN MC (dg s)) = false by rw [decide_eq_false_iff_not]; omega]; simp
    · have hg : goodB s = true := by
        simp only [goodB, a, b, c, e, d.2, Bool.true_and, Bool.and_true, Bool.and_eq_true, decide_eq_true_eq]; omega
      unfold opn; rw [hg, if_pos rfl, if_neg g]
    · have hg : goodB s = true := by
        simp only [goodB, a, b, c, e, d.2, Bool.true_and, Bool.and_true, Bool.and_eq_true, decide_eq_true_eq]; omega
      unfold opn; rw [hg, if_pos rfl, if_pos g]) (by kernel_rfl) (by kernel_rfl)
theorem s_openR (s : List UInt8)(hs : small s = true) : SCall Try.prog 14 [.str s] (.tuple [I64 (opn s).1, .str (opn s).2.1, I64 (opn s).2.2]) :=
  scall_v mix [fSplit, fFind2, fParse, fPlainR, fXorR] ⟨o_split, o_find2, o_parse, o_plainR, o_xorR, trivial⟩ 1000 (.lit (.lit (.fork (.lit (.lit (.lit (.lit (.lit (.lit (.lit (.all)))))))) (.lit (.lit (.fork (.lit (.lit (.lit (.lit (.all))))) (.lit (.lit (.lit (.fork (.all) (.fork (.lit (.lit (.lit (.lit (.lit (.lit (.lit (.lit (.lit (.lit (.lit (.lit (.lit (.lit (.all))))))))))))))) (.lit (.lit (.fork (.lit (.lit (.lit (.lit (.lit (.lit (.lit (.lit (.lit (.lit (.lit (.all)))))))))))) (.lit (.lit (.fork (.lit (.lit (.lit (.lit (.lit (.lit (.lit (.lit (.all))))))))) (.lit (.lit (.lit (.fork (.lit (.lit (.lit (.lit (.all))))) (.lit (.lit (.lit (.fork (.all) (.fork (.all) (.all)))))))))))))))))))))))))))
   (t := .req (small s) (.req (small (hd s)) (.node (!cO s)
   (.leaf (SV.tuple [I64 0, SV.str [], I64 5]))
   (.node (decide (ix (hd s) 32 < 1))
    (.leaf (SV.tuple [I64 0, SV.str [], I64 5]))
    (.req (true && decide (0 < ((hd s).length : Int))) (.node ((bt (hd s) 0) != 78)
      (.leaf (SV.tuple [I64 0, SV.str [], I64 5]))
      (.req (decide (0 ≤ ix (hd s) 32) && decide (ix (hd s) 32 ≤ ((hd s).length : Int)) && true && decide (1 ≤ ix (hd s) 32)) (.req (small (List.drop 1 (List.take (ix (hd s) 32).toNat (hd s)))) (.req (decide (0 ≤ IntKind.i64.wrap (ix (hd s) 32 + 1)) && decide (IntKind.i64.wrap (ix (hd s) 32 + 1) ≤ ((hd s).length : Int))) (.node ((parseV (List.drop 1 (List.take (ix (hd s) 32).toNat (hd s)))).snd != 0)
          (.leaf (SV.tuple [I64 0, SV.str [], I64 5]))
          (.node (decide ((parseV (List.drop 1 (List.take (ix (hd s) 32).toNat (hd s)))).fst < 1))
           (.leaf (SV.tuple [I64 0, SV.str [], I64 5]))
           (.node (decide ((parseV (List.drop 1 (List.take (ix (hd s) 32).toNat (hd s)))).fst > MC))
            (.leaf (SV.tuple [I64 0, SV.str [], I64 5]))
            (.req (small (List.drop (IntKind.i64.wrap (ix (hd s) 32 + 1)).toNat (hd s))) (.node (!plainB (List.drop (IntKind.i64.wrap (ix (hd s) 32 + 1)).toNat (hd s)))
              (.leaf (SV.tuple [I64 0, SV.str [], I64 5]))
              (.node (decide (((List.drop (IntKind.i64.wrap (ix (hd s) 32 + 1)).toNat (hd s)).length : Int) > 96))
               (.leaf (SV.tuple [I64 0, SV.str [], I64 5]))
               (.req (small (hd s)) (.node (xr (hd s) != cP s)
                 (.leaf (SV.tuple [I64 0, SV.str [], I64 7]))
                 (.leaf (SV.tuple [I64 (parseV (List.drop 1 (List.take (ix (hd s) 32).toNat (hd s)))).fst, SV.str (List.drop (IntKind.i64.wrap (ix (hd s) 32 + 1)).toNat (hd s)), I64 0])))))))))))))))))))
   (by kernel_rfl) (by 
    have bad : goodB s = false → SV.tuple [I64 0, .str [], I64 5] = SV.tuple [I64 (opn s).1, .str (opn s).2.1, I64 (opn s).2.2] := fun h => by unfold opn; rw [h]; rfl
    have hh := hd_len s
    have sh := small_le hh hs
    have hl := ix_lt (hd s) 32
    have hg := ix_ge (hd s) 32
    have sh' := small_iff.1 sh
    have hn := numO_iff (M := MC) (by decide) (by decide) (dg s)
    have hnN := fun h => numN_of (M := MC) (by decide) (by decide) (B := dg s) h
    rw [wrap64 (by omega) (by omega)]
    simp only [Tree.holds, Bool.not_eq_true', Bool.not_eq_false', decide_eq_true_eq, decide_eq_false_iff_not, Bool.and_eq_true, true_and, and_true, bne_iff_ne, bne_eq_false_iff_eq]
    refine ⟨hs, sh, fun a => bad (by simp [goodB, a]), fun a => ⟨fun b => bad ?_, fun b => ?_⟩⟩
    · by_cases h0 : ix (hd s) 32 = 0
      · have : cutA (hd s) 32 = [] := by unfold cutA; rw [if_pos (by omega), h0]; rfl
        rw [goodB, this]; simp [preN]
      · have : cutC (hd s) 32 = false := by simp [cutC]; omega
        simp [goodB, this]
    · have hc : cutC (hd s) 32 = true := by simp [cutC]; omega
      obtain ⟨eA, eB, _⟩ := cut_at hc
      have eD : List.drop 1 (List.take (ix (hd s) 32).toNat (hd s)) = dg s := by rw [← eA]; rfl
      rw [← eB, eD]
      have sB := small_le (cutB_len (hd s) 32) sh
      have sD : small (dg s) = true := small_le (by unfold dg; rw [List.length_drop]; have := cutA_len (hd s) 32; omega) sh
      have hp := preN_take (s := hd s) (i := (ix (hd s) 32).toNat) (by omega) (by omega)
      rw [← eA] at hp
      refine ⟨by omega, fun c => bad ?_, fun c => ⟨⟨⟨by omega, by omega⟩, by omega⟩, sD, ⟨by omega, by omega⟩, fun d => bad ?_, fun d => ⟨fun e => bad ?_, fun e => ⟨fun f => bad ?_, fun f => ⟨sB, fun g => bad (by simp [goodB, g]), fun g => ⟨fun h => bad ?_, fun h => ⟨sh, fun k => ?_, fun k => ?_⟩⟩⟩⟩⟩⟩⟩
      · have : preN (cutA (hd s) 32) = false := by rw [← Bool.not_eq_true, hp]; exact c
        simp [goodB, this]
      · have : numO MC (dg s) = false := by rw [← Bool.not_eq_true, hn]; exact fun h => d h.1
        simp [goodB, this]
      · by_cases ho : numO MC (dg s) = true
        · have : decide (1 ≤ numN MC (dg s)) = false := by rw [decide_eq_false_iff_not, hnN ho]; omega
          simp [goodB, this]
        · have : numO MC (dg s) = false := by simpa using ho
          simp [goodB, this]
      · have : numO MC (dg s) = false := by rw [← Bool.not_eq_true, hn]; exact fun h => by omega
        simp [goodB, this]
      · have : decide (((cutB (hd s) 32).length : Int) ≤ 96) = false := by rw [decide_eq_false_iff_not]; omega
        simp [goodB, this]
      all_goals
        have ho : numO MC (dg s) = true := hn.2 ⟨d, by omega, by omega⟩
        have hgd : goodB s = true := by
          simp only [goodB, a, hc, hp.2 c, g, ho, hnN ho, Bool.true_and, Bool.and_true, Bool.and_eq_true, decide_eq_true_eq]; omega
        have ec := cO_same a
        unfold opn
      · rw [hgd, if_pos rfl, if_neg (by rw [ec]; exact fun h => k h.symm)]
      · rw [hgd, if_pos rfl, if_pos (by rw [ec]; exact k.symm), hnN ho]) (by kernel_rfl) (by kernel_rfl)
def fFrame : Fact := ⟨11, fun args => match args with
  | [.int .i64 n, .str t] => some (.req (small t) (.leaf (.tuple [.str (frame n t).1, I64 (frame n t).2])))
  | _ => none⟩
theorem o_frame : fFrame.ok Try.prog := fun args t ht => by
  simp only [fFrame] at ht
  split at ht
  · injection ht with ht; subst ht; exact s_frame _ _
  · cases ht
def fFrameR : Fact := ⟨12, fun args => match args with
  | [.int .i64 n, .str t] => some (.req (small t) (.leaf (.tuple [.str (frame n t).1, I64 (frame n t).2])))
  | _ => none⟩
theorem o_frameR : fFrameR.ok Try.prog := fun args t ht => by
  simp only [fFrameR] at ht
  split at ht
  · injection ht with ht; subst ht; exact s_frameR _ _
  · cases ht
def fOpen : Fact := factL 13 fun s => .leaf (.tuple [I64 (opn s).1, .str (opn s).2.1, I64 (opn s).2.2])
theorem o_open : fOpen.ok Try.prog := factL_ok s_open
def fOpenR : Fact := factL 14 fun s => .leaf (.tuple [I64 (opn s).1, .str (opn s).2.1, I64 (opn s).2.2])
theorem o_openR : fOpenR.ok Try.prog := factL_ok s_openR
def fAwake : Fact := fact0 15 (.leaf (.bool true))
end Go.Proofs.Ytibpodgdondakaa
set_option linter.unusedSimpArgs false
set_option linter.unusedVariables false
set_option maxRecDepth 100000
namespace Go.Proofs.Ytibpodgdondakaa
open Go.Sx

/-! ### The digits of a number -/

def dv : List Int → Int
  | [] => 0
  | d :: r => (d - 48) + 10 * dv r
theorem dv_rd : ∀ (k : Nat) (u : Int), 0 ≤ u → u < 10 ^ k → dv (rd k u) = u
  | 0, u, h0, hk => by simp at hk; have : u = 0 := by omega
                       subst this; rfl
  | k + 1, u, h0, hk => by
    unfold rd
    rw [Int.pow_succ] at hk
    split
    · rename_i h
      have := dv_rd k (u / 10) (by omega) (by omega)
      simp only [dv, this]; omega
    · simp only [dv]; omega
theorem rd_digits : ∀ (k : Nat) (u : Int), 0 ≤ u → ∀ d ∈ rd k u, 48 ≤ d ∧ d ≤ 57
  | 0, u, h0, d, hd => by cases hd
  | k + 1, u, h0, d, hd => by
    unfold rd at hd
    cases hd with
    | head => omega
    | tail _ hd =>
      split at hd
      · exact rd_digits k (u / 10) (by omega) d hd
      · cases hd
/-- The first digit (the last of the list) is none, but for 0. -/
theorem rd_last : ∀ (k : Nat) (u : Int), 0 < u → u < 10 ^ k → ∃ d, (rd k u).getLast? = some d ∧ d ≠ 48
  | 0, u, h0, hk => by simp at hk; omega
  | k + 1, u, h0, hk => by
    unfold rd
    rw [Int.pow_succ] at hk
    split
    · rename_i h
      obtain ⟨d, h1, h2⟩ := rd_last k (u / 10) (by omega) (by omega)
      refine ⟨d, ?_, h2⟩
      rw [List.getLast?_cons, h1]; rfl
    · exact ⟨48 + u % 10, rfl, by omega⟩

theorem toB_toNat {d : Int} (h : 48 ≤ d ∧ d ≤ 57) : ((UInt8.ofNat d.toNat).toNat : Int) = d := by
  rw [UInt8.toNat_ofNat']; omega
theorem digs_toB {l : List Int} (h : ∀ d ∈ l, 48 ≤ d ∧ d ≤ 57) : digs (toB l) = true := by
  simp only [digs, toB, List.all_eq_true]
  intro b hb
  obtain ⟨d, hd, rfl⟩ := List.mem_map.1 hb
  rw [isDig_iff, toB_toNat (h d hd)]
  exact h d hd
theorem val_toB : ∀ {l : List Int}, (∀ d ∈ l, 48 ≤ d ∧ d ≤ 57) → val (toB l.reverse) = dv l
  | [], _ => rfl
  | d :: l, h => by
    have ih := val_toB (l := l) fun x hx => h x (List.mem_cons_of_mem _ hx)
    have e : toB (d :: l).reverse = toB l.reverse ++ [UInt8.ofNat d.toNat] := by simp [toB]
    rw [e]
    unfold val valF at ih ⊢
    rw [List.foldl_append, ih]
    simp only [List.foldl_cons, List.foldl_nil]
    rw [toB_toNat (h d List.mem_cons_self), dv]
    omega

theorem size_pos {n : Int} (h0 : 0 ≤ n) (h1 : n ≤ 9223372036854775807) : size n = n := by
  unfold size
  rw [if_neg (by omega), u64_id h0 (by omega)]
theorem fmt_pos {n : Int} (h0 : 0 ≤ n) (h1 : n ≤ 9223372036854775807) : fmt n = toB (rd 20 n).reverse := by
  unfold fmt backs
  rw [size_pos h0 h1, if_neg (by omega), List.append_nil]
theorem p20 : (10 : Int) ^ 20 = 100000000000000000000 := by decide
theorem numV_fmt {M n : Int} (h0 : 0 ≤ n) (hM : n ≤ M) (hM2 : M ≤ 4398046511104) : numV M (fmt n) = some n := by
  have hd := rd_digits 20 n h0
  have hp := p20
  rw [numV_eq (by omega), fmt_pos h0 (by omega)]
  have hv : val (toB (rd 20 n).reverse) = n := by rw [val_toB hd, dv_rd 20 n h0 (by omega)]
  refine ⟨?_, ?_, digs_toB fun d h => hd d (List.mem_reverse.1 h), by omega, hv.symm⟩
  · unfold rd; simp [toB]
  · by_cases hz : n = 0
    · subst hz; rfl
    · obtain ⟨d, h1, h2⟩ := rd_last 20 n (by omega) (by omega)
      have hm : d ∈ rd 20 n := List.mem_of_getLast? h1
      have h3 : (toB (rd 20 n).reverse).head? = some (UInt8.ofNat d.toNat) := by
        simp only [toB, List.head?_map, List.head?_reverse, h1]; rfl
      have h4 : UInt8.ofNat d.toNat ≠ 48 := by
        intro e
        have := toB_toNat (hd d hm)
        rw [e] at this
        have e48 : ((48 : UInt8).toNat : Int) = 48 := rfl
        omega
      simp [lead0, h3, h4]

theorem fmt_bytes {n : Int} (h0 : 0 ≤ n) (h1 : n ≤ 9223372036854775807) : ∀ b ∈ fmt n, 48 ≤ (b.toNat : Int) ∧ (b.toNat : Int) ≤ 57 := by
  intro b hb
  rw [fmt_pos h0 h1] at hb
  obtain ⟨d, hd, rfl⟩ := List.mem_map.1 hb
  have := rd_digits 20 n h0 d (List.mem_reverse.1 hd)
  rw [toB_toNat this]; exact this

/-! ### Cutting at the first -/

theorem ix_first {c : UInt8} : ∀ {x r : List UInt8}, (∀ a ∈ x, a ≠ c) → ix (x ++ c :: r) c = x.length
  | [], r, _ => by rw [List.nil_append, ix_cons, if_pos rfl]; rfl
  | a :: x, r, h => by
    rw [List.cons_append, ix_cons, if_neg (h a List.mem_cons_self), ix_first fun b hb => h b (List.mem_cons_of_mem _ hb), if_neg (by omega)]
    simp
theorem cut_first {c : UInt8} {x r : List UInt8} (h : ∀ a ∈ x, a ≠ c) : cutC (x ++ c :: r) c = true ∧ cutA (x ++ c :: r) c = x ∧ cutB (x ++ c :: r) c = r := by
  have e := ix_first (r := r) h
  unfold cutC cutA cutB
  rw [e]
  refine ⟨by simp, ?_, ?_⟩
  · rw [if_pos (by omega)]; simp
  · rw [if_pos (by omega), show ((x.length : Int) + 1).toNat = x.length + 1 by omega, List.drop_append]
    simp

theorem xr_range (s : List UInt8) : 0 ≤ xr s ∧ xr s ≤ 255 := by
  unfold xr
  have := (xorL 0 s).toNat_lt
  omega
theorem okB_iff {b : UInt8} : okB b = true ↔ (32 ≤ (b.toNat : Int) ∧ (b.toNat : Int) ≤ 126 ∧ (b.toNat : Int) ≠ 42) := by
  simp only [okB, Bool.and_eq_true, Bool.not_eq_true', decide_eq_false_iff_not, beq_eq_false_iff_ne]
  omega

theorem frame_ok {n : Int} {t : List UInt8} (h : (frame n t).2 = 0) : 1 ≤ n ∧ n ≤ MC ∧ plainB t = true ∧ (t.length : Int) ≤ 96 ∧ (frame n t).1 = [78] ++ fmt n ++ [32] ++ t ++ [42] ++ fmt (xr ([78] ++ fmt n ++ [32] ++ t)) := by
  unfold frame at h ⊢
  by_cases h1 : n < 1 ∨ n > MC ∨ plainB t = false
  · rw [if_pos h1] at h; cases h
  · rw [if_neg h1] at h ⊢
    by_cases h2 : (t.length : Int) > 96
    · rw [if_pos h2] at h; cases h
    · rw [if_neg h2] at h ⊢
      refine ⟨by omega, by omega, ?_, by omega, rfl⟩
      by_cases hp : plainB t = true
      · exact hp
      · exact absurd (.inr (.inr (by simpa using hp))) h1

theorem open_frame {n : Int} {t : List UInt8} (h : (frame n t).2 = 0) : opn (frame n t).1 = (n, t, 0) := by
  obtain ⟨h1, h2, hp, hl, he⟩ := frame_ok h
  have hMC : MC = 1099511627776 := rfl
  rw [he]
  have fb := fmt_bytes (n := n) (by omega) (by omega)
  have hp' : ∀ b ∈ t, okB b = true := by simpa [plainB, List.all_eq_true] using hp
  have b42 : ((42 : UInt8).toNat : Int) = 42 := rfl
  have b32 : ((32 : UInt8).toNat : Int) = 32 := rfl
  -- no asterisk ahead of the checksum
  have no42 : ∀ a ∈ [78] ++ fmt n ++ [32] ++ t, a ≠ 42 := by
    intro a ha e
    subst e
    simp only [List.mem_append, List.mem_singleton] at ha
    rcases ha with ((ha | ha) | ha) | ha
    · cases ha
    · have := fb _ ha; omega
    · cases ha
    · have := okB_iff.1 (hp' _ ha); omega
  have no32 : ∀ a ∈ [78] ++ fmt n, a ≠ 32 := by
    intro a ha e
    subst e
    simp only [List.mem_append, List.mem_singleton] at ha
    rcases ha with ha | ha
    · cases ha
    · have := fb _ ha; omega
  generalize hF : [78] ++ fmt n ++ [32] ++ t = F at no42 ⊢
  have e1 : F ++ [42] ++ fmt (xr F) = F ++ 42 :: fmt (xr F) := by simp
  have e2 : F = ([78] ++ fmt n) ++ 32 :: t := by rw [← hF]; simp
  rw [e1]
  obtain ⟨c1, c2, c3⟩ := cut_first (r := fmt (xr F)) no42
  have hhd : hd (F ++ 42 :: fmt (xr F)) = F := by unfold hd; rw [c1, if_pos rfl, c2]
  obtain ⟨d1, d2, d3⟩ := cut_first (r := t) no32
  rw [← e2] at d1 d2 d3
  have xrr := xr_range F
  have nx : numV 255 (fmt (xr F)) = some (xr F) := numV_fmt xrr.1 xrr.2 (by omega)
  have hcN : cN (F ++ 42 :: fmt (xr F)) = xr F := by unfold cN numN; rw [c1, if_pos rfl, c3, nx]; rfl
  have hcO : cO (F ++ 42 :: fmt (xr F)) = true := by unfold cO numO; rw [c1, c3, nx]; rfl
  have hdg : dg (F ++ 42 :: fmt (xr F)) = fmt n := by unfold dg; rw [hhd, d2]; rfl
  have nn : numV MC (fmt n) = some n := numV_fmt (by omega) h2 (by omega)
  have hnN : numN MC (fmt n) = n := by unfold numN; rw [nn]; rfl
  have hnO : numO MC (fmt n) = true := by unfold numO; rw [nn]; rfl
  have hg : goodB (F ++ 42 :: fmt (xr F)) = true := by
    unfold goodB
    rw [hcO, hhd, d1, d2, d3, hdg, hnN, hnO, hp, decide_eq_true hl, decide_eq_true h1]
    rfl
  unfold opn
  rw [hg, if_pos rfl, hcN, hhd, if_pos rfl, hdg, hnN, d3]

theorem frame_small (n : Int) {t : List UInt8} (h : (t.length : Int) ≤ 1000) : small (frame n t).1 = true := by
  have h1 := fmt_len n
  have h2 := fmt_len (xr ([78] ++ fmt n ++ [32] ++ t))
  rw [small_iff]
  unfold frame
  split
  · decide
  · split
    · decide
    · simp only [List.length_append, List.length_cons, List.length_nil]; omega
theorem small_take (t : List UInt8) : small (List.take 120 t) = true := by
  rw [small_iff, List.length_take]; omega

/-! ### Answers -/

def repl (w : List UInt8) (n : Int) : List UInt8 := w ++ [32] ++ fmt n ++ [42] ++ fmt (xr (w ++ [32] ++ fmt n))
def fReply : Fact := ⟨53, fun args => match args with
  | [.str w, .int .i64 n] => some (.req (decide ((w.length : Int) ≤ 100)) (.leaf (.agg [.bool true, .str (repl w n), .bool false])))
  | _ => none⟩
def fReplyR : Fact := ⟨54, fun args => match args with
  | [.str w, .int .i64 n] => some (.req (decide ((w.length : Int) ≤ 100)) (.leaf (.str (repl w n))))
  | _ => none⟩

def wOk : List UInt8 := [111, 107]
def wRe : List UInt8 := [114, 101, 115, 101, 110, 100]
/-- What the device does with a packet: its number behind it, the accepted text, the reply, and whether it was accepted. -/
def rcv (w : Int) (b : Bool) (t : List UInt8) : Int × List UInt8 × Bool × List UInt8 × Bool :=
  if w < 1 ∨ w > MC + 1 ∨ b = true then (w, [], false, [], false)
  else if (opn t).2.2 ≠ 0 ∨ (opn t).1 > w then (w, [], true, repl wRe w, false)
  else if (opn t).1 < w then (w, [], true, repl wOk (IntKind.i64.wrap (w - 1)), false)
  else (IntKind.i64.wrap (w + 1), (opn t).2.1, true, repl wOk (opn t).1, true)
def rcvS (r : Int × List UInt8 × Bool × List UInt8 × Bool) : SV := .tuple [.agg [I64 r.1], .str r.2.1, .agg [.bool r.2.2.1, .str r.2.2.2.1, .bool false], .bool r.2.2.2.2]
def factDP (f : FuncId) (h : Int → Bool → List UInt8 → Bool → Tree SV) : Fact := ⟨f, fun args => match args with
  | [.agg [.int .i64 w], .agg [.bool b, .str t, .bool sp]] => some (.req (small t) (h w b t sp))
  | _ => none⟩
theorem factDP_ok {P : Program} {f : FuncId} {h : Int → Bool → List UInt8 → Bool → Tree SV} (k : ∀ w b t sp, small t = true → (h w b t sp).says (SCall P f [.agg [I64 w], .agg [.bool b, .str t, .bool sp]])) : (factDP f h).ok P := fun args t ht => by
  simp only [factDP] at ht
  split at ht
  · injection ht with ht; subst ht; exact k _ _ _ _
  · cases ht
def fRecv : Fact := factDP 16 fun w b t _ => .leaf (.tuple [.agg [I64 (rcv w b t).1], .str (rcv w b t).2.1, .agg [.bool (rcv w b t).2.2.1, .str (rcv w b t).2.2.2.1, .bool false], .bool (rcv w b t).2.2.2.2])
def fRecvR : Fact := factDP 17 fun w b t _ => .leaf (.tuple [.agg [I64 (rcv w b t).1], .str (rcv w b t).2.1, .agg [.bool (rcv w b t).2.2.1, .str (rcv w b t).2.2.2.1, .bool false], .bool (rcv w b t).2.2.2.2])
end Go.Proofs.Ytibpodgdondakaa
set_option linter.unusedSimpArgs false
set_option linter.unusedVariables false
set_option maxRecDepth 100000
namespace Go.Proofs.Ytibpodgdondakaa
open Go.Sx
theorem s_awake : SCall Try.prog 15 [] (.bool true) := scall_closed mix [fIx] ⟨o_ix, trivial⟩ 20000 .auto (by kernel_rfl) rfl rfl
theorem o_awake : fAwake.ok Try.prog := fact0_ok s_awake
theorem s_reply (w : List UInt8) (n : Int)(hw : decide ((w.length : Int) ≤ 100) = true) : SCall Try.prog 53 [.str w, I64 n] (.agg [.bool true, .str (repl w n), .bool false]) :=
  scall_v mix [fFmt, fMarked] ⟨o_fmt, o_marked, trivial⟩ 1000 (.all)
   (t := .req (decide (((w.length + 1 : Nat) : Int) ≤ (9223372036854775807 : Int))) (.req (decide ((((w ++ [32]).length + (fmt n).length : Nat) : Int) ≤ (9223372036854775807 : Int))) (.req (small (w ++ [32] ++ fmt n)) (.leaf (SV.agg [SV.bool true, SV.str (w ++ [32] ++ fmt n ++ [42] ++ fmt (xr (w ++ [32] ++ fmt n))), SV.bool false])))))
   (by kernel_rfl) (by 
    have h1 := fmt_len n
    have hw := of_decide_eq_true hw
    have hs : small (w ++ [32] ++ fmt n) = true := by rw [small_iff]; simp only [List.length_append, List.length_cons, List.length_nil]; omega
    simp only [Tree.holds, decide_eq_true_eq, List.length_append, List.length_cons, List.length_nil]
    exact ⟨by omega, by omega, hs, rfl⟩) (by kernel_rfl) (by kernel_rfl)
theorem s_Reply (w : List UInt8) (n : Int)(hw : decide ((w.length : Int) ≤ 100) = true) : SCall Try.prog 54 [.str w, I64 n] (.str (repl w n)) :=
  scall_v mix [fFmtR, fSealed] ⟨o_fmtR, o_sealed, trivial⟩ 1000 (.all)
   (t := .req (decide (((w.length + 1 : Nat) : Int) ≤ (9223372036854775807 : Int))) (.req (decide ((((w ++ [32]).length + (fmt n).length : Nat) : Int) ≤ (9223372036854775807 : Int))) (.req (small (w ++ [32] ++ fmt n)) (.leaf (SV.str (w ++ [32] ++ fmt n ++ [42] ++ fmt (xr (w ++ [32] ++ fmt n))))))))
   (by kernel_rfl) (by 
    have h1 := fmt_len n
    have hw := of_decide_eq_true hw
    have hs : small (w ++ [32] ++ fmt n) = true := by rw [small_iff]; simp only [List.length_append, List.length_cons, List.length_nil]; omega
    simp only [Tree.holds, decide_eq_true_eq, List.length_append, List.length_cons, List.length_nil]
    exact ⟨by omega, by omega, hs, rfl⟩) (by kernel_rfl) (by kernel_rfl)
theorem o_reply : fReply.ok Try.prog := fun args t ht => by
  simp only [fReply] at ht
  split at ht
  · injection ht with ht; subst ht; exact s_reply _ _
  · cases ht
theorem o_Reply : fReplyR.ok Try.prog := fun args t ht => by
  simp only [fReplyR] at ht
  split at ht
  · injection ht with ht; subst ht; exact s_Reply _ _
  · cases ht
theorem s_law3 (n : Int) (t s : List UInt8) : SCall Try.prog 3 [I64 n, .str t, .str s] (.bool true) :=
  scall_v mix [fShort, fFrame, fFrameR, fOpen, fOpenR, fAwake] ⟨o_short, o_frame, o_frameR, o_open, o_openR, o_awake, trivial⟩ 1000 (.fork (.lit (.lit (.lit (.lit (.lit (.lit (.lit (.lit (.lit (.lit (.lit (.lit (.lit (.lit (.lit (.lit (.all))))))))))))))))) (.lit (.lit (.lit (.fork (.lit (.lit (.lit (.lit (.lit (.lit (.lit (.lit (.lit (.lit (.lit (.lit (.all))))))))))))) (.lit (.lit (.lit (.fork (.lit (.lit (.lit (.lit (.lit (.lit (.lit (.lit (.all))))))))) (.lit (.lit (.lit (.fork (.lit (.lit (.lit (.lit (.all))))) (.lit (.lit (.lit (.fork (.all) (.fork (.lit (.lit (.lit (.lit (.lit (.lit (.lit (.lit (.lit (.all)))))))))) (.lit (.lit (.lit (.fork (.lit (.lit (.lit (.lit (.lit (.fork (.lit (.lit (.lit (.lit (.fork (.lit (.all)) (.lit (.all))))))) (.lit (.lit (.lit (.lit (.lit (.lit (.all))))))))))))) (.lit (.lit (.lit (.lit (.lit (.lit (.lit (.lit (.lit (.lit (.lit (.lit (.all)))))))))))))))))))))))))))))))))))
   (t := .req (small (List.take 120 t)) (.req (small (List.take 120 t)) (.req (small (List.take 120 s)) (.req (small (List.take 120 s)) (.node (!(frame n (List.take 120 t)).fst == (frame n (List.take 120 t)).fst)
     (.leaf (SV.bool false))
     (.node ((frame n (List.take 120 t)).snd != (frame n (List.take 120 t)).snd)
      (.leaf (SV.bool false))
      (.node ((opn (List.take 120 s)).fst != (opn (List.take 120 s)).fst)
       (.leaf (SV.bool false))
       (.node (!(opn (List.take 120 s)).snd.fst == (opn (List.take 120 s)).snd.fst)
        (.leaf (SV.bool false))
        (.node ((opn (List.take 120 s)).snd.snd != (opn (List.take 120 s)).snd.snd)
         (.leaf (SV.bool false))
         (.req (small (frame n (List.take 120 t)).fst) (.node ((frame n (List.take 120 t)).snd != 0)
           (.leaf (SV.bool true))
           (.node ((opn (frame n (List.take 120 t)).fst).fst == n)
            (.node ((opn (frame n (List.take 120 t)).fst).snd.fst == List.take 120 t)
             (.node ((opn (frame n (List.take 120 t)).fst).snd.snd == 0)
              (.leaf (SV.bool true))
              (.leaf (SV.bool false)))
             (.leaf (SV.bool false)))
            (.leaf (SV.bool false))))))))))))))
   (by kernel_rfl) (by 
    have s1 := small_take t
    have s2 := small_take s
    have s3 := frame_small n (t := List.take 120 t) (by rw [List.length_take]; omega)
    have key := open_frame (n := n) (t := List.take 120 t)
    generalize List.take 120 t = t at *
    generalize List.take 120 s = s at *
    simp only [Tree.holds, s1, s2, s3, bne_self_eq_false, beq_self_eq_true, Bool.not_true, Bool.false_eq_true, false_implies, true_implies, true_and, and_true, bne_iff_ne, bne_eq_false_iff_eq]
    refine ⟨fun _ => trivial, fun h => ?_⟩
    rw [key h]
    simp) (by kernel_rfl) (by kernel_rfl)
theorem s_receive (w : Int) (b : Bool) (t : List UInt8) (sp : Bool)(hs : small t = true) : SCall Try.prog 16 [.agg [I64 w], .agg [.bool b, .str t, .bool sp]] (rcvS (rcv w b t)) :=
  scall_v mix [fOpen, fReply] ⟨o_open, o_reply, trivial⟩ 1000 (.fork (.lit (.lit (.lit (.lit (.lit (.lit (.lit (.all)))))))) (.lit (.lit (.lit (.fork (.lit (.lit (.lit (.all)))) (.lit (.lit (.fork (.all) (.fork (.lit (.lit (.lit (.lit (.lit (.all)))))) (.lit (.lit (.lit (.lit (.fork (.all) (.fork (.all) (.all))))))))))))))))
   (t := .node (decide (w < 1))
 (.leaf (SV.tuple [SV.agg [I64 w], SV.str [], SV.agg [SV.bool false, SV.str [], SV.bool false], SV.bool false]))
 (.node (decide (w > (MC + 1)))
  (.leaf (SV.tuple [SV.agg [I64 w], SV.str [], SV.agg [SV.bool false, SV.str [], SV.bool false], SV.bool false]))
  (.node (b)
   (.leaf (SV.tuple [SV.agg [I64 w], SV.str [], SV.agg [SV.bool false, SV.str [], SV.bool false], SV.bool false]))
   (.req (small t) (.node ((opn t).snd.snd != 0)
     (.req (true) (.leaf (SV.tuple [SV.agg [I64 w], SV.str [], SV.agg [SV.bool true, SV.str (repl [114, 101, 115, 101, 110, 100] w), SV.bool false], SV.bool false])))
     (.node (decide ((opn t).fst > w))
      (.req (true) (.leaf (SV.tuple [SV.agg [I64 w], SV.str [], SV.agg [SV.bool true, SV.str (repl [114, 101, 115, 101, 110, 100] w), SV.bool false], SV.bool false])))
      (.node (decide ((opn t).fst < w))
       (.req (true) (.leaf (SV.tuple [SV.agg [I64 w], SV.str [], SV.agg [SV.bool true, SV.str (repl [111, 107] (IntKind.i64.wrap (w - 1))), SV.bool false], SV.bool false])))
       (.req (true) (.leaf (SV.tuple [SV.agg [I64 (IntKind.i64.wrap (w + 1))], SV.str (opn t).snd.fst, SV.agg [SV.bool true, SV.str (repl [111, 107] (opn t).fst), SV.bool false], SV.bool true]))))))))))
   (by kernel_rfl) (by 
    simp only [Tree.holds, decide_eq_true_eq, decide_eq_false_iff_not, bne_iff_ne, bne_eq_false_iff_eq, true_and]
    refine ⟨fun a => ?_, fun a => ⟨fun b1 => ?_, fun b1 => ⟨fun c => ?_, fun c => ⟨hs, fun d => ?_, fun d => ⟨fun e => ?_, fun e => ⟨fun f => ?_, fun f => ?_⟩⟩⟩⟩⟩⟩
    · rw [show rcv w b t = (w, [], false, [], false) from by unfold rcv; rw [if_pos (.inl a)]]; rfl
    · rw [show rcv w b t = (w, [], false, [], false) from by unfold rcv; rw [if_pos (.inr (.inl b1))]]; rfl
    · rw [show rcv w b t = (w, [], false, [], false) from by unfold rcv; rw [if_pos (.inr (.inr c))]]; rfl
    all_goals have hn : ¬ (w < 1 ∨ w > MC + 1 ∨ b = true) := by rw [c]; simp; omega
    · rw [show rcv w b t = (w, [], true, repl wRe w, false) from by unfold rcv; rw [if_neg hn, if_pos (.inl d)]]; rfl
    · rw [show rcv w b t = (w, [], true, repl wRe w, false) from by unfold rcv; rw [if_neg hn, if_pos (.inr e)]]; rfl
    all_goals have hm : ¬ ((opn t).2.2 ≠ 0 ∨ (opn t).1 > w) := fun h => h.elim (fun h => h d) e
    · rw [show rcv w b t = (w, [], true, repl wOk (IntKind.i64.wrap (w - 1)), false) from by unfold rcv; rw [if_neg hn, if_neg hm, if_pos f]]; rfl
    · rw [show rcv w b t = (IntKind.i64.wrap (w + 1), (opn t).2.1, true, repl wOk (opn t).1, true) from by unfold rcv; rw [if_neg hn, if_neg hm, if_neg f]]; rfl) (by kernel_rfl) (by kernel_rfl)
theorem s_receiveR (w : Int) (b : Bool) (t : List UInt8) (sp : Bool)(hs : small t = true) : SCall Try.prog 17 [.agg [I64 w], .agg [.bool b, .str t, .bool sp]] (rcvS (rcv w b t)) :=
  scall_v mix [fOpenR, fReplyR] ⟨o_openR, o_Reply, trivial⟩ 1000 (.fork (.lit (.lit (.lit (.lit (.lit (.lit (.lit (.all)))))))) (.lit (.lit (.lit (.fork (.lit (.lit (.lit (.all)))) (.lit (.lit (.fork (.all) (.fork (.lit (.lit (.lit (.lit (.lit (.all)))))) (.lit (.lit (.lit (.lit (.fork (.all) (.fork (.all) (.all))))))))))))))))
   (t := .node (decide (w < 1))
 (.leaf (SV.tuple [SV.agg [I64 w], SV.str [], SV.agg [SV.bool false, SV.str [], SV.bool false], SV.bool false]))
 (.node (decide (w > (MC + 1)))
  (.leaf (SV.tuple [SV.agg [I64 w], SV.str [], SV.agg [SV.bool false, SV.str [], SV.bool false], SV.bool false]))
  (.node (b)
   (.leaf (SV.tuple [SV.agg [I64 w], SV.str [], SV.agg [SV.bool false, SV.str [], SV.bool false], SV.bool false]))
   (.req (small t) (.node ((opn t).snd.snd != 0)
     (.req (true) (.leaf (SV.tuple [SV.agg [I64 w], SV.str [], SV.agg [SV.bool true, SV.str (repl [114, 101, 115, 101, 110, 100] w), SV.bool false], SV.bool false])))
     (.node (decide ((opn t).fst > w))
      (.req (true) (.leaf (SV.tuple [SV.agg [I64 w], SV.str [], SV.agg [SV.bool true, SV.str (repl [114, 101, 115, 101, 110, 100] w), SV.bool false], SV.bool false])))
      (.node (decide ((opn t).fst < w))
       (.req (true) (.leaf (SV.tuple [SV.agg [I64 w], SV.str [], SV.agg [SV.bool true, SV.str (repl [111, 107] (IntKind.i64.wrap (w - 1))), SV.bool false], SV.bool false])))
       (.req (true) (.leaf (SV.tuple [SV.agg [I64 (IntKind.i64.wrap (w + 1))], SV.str (opn t).snd.fst, SV.agg [SV.bool true, SV.str (repl [111, 107] (opn t).fst), SV.bool false], SV.bool true]))))))))))
   (by kernel_rfl) (by 
    simp only [Tree.holds, decide_eq_true_eq, decide_eq_false_iff_not, bne_iff_ne, bne_eq_false_iff_eq, true_and]
    refine ⟨fun a => ?_, fun a => ⟨fun b1 => ?_, fun b1 => ⟨fun c => ?_, fun c => ⟨hs, fun d => ?_, fun d => ⟨fun e => ?_, fun e => ⟨fun f => ?_, fun f => ?_⟩⟩⟩⟩⟩⟩
    · rw [show rcv w b t = (w, [], false, [], false) from by unfold rcv; rw [if_pos (.inl a)]]; rfl
    · rw [show rcv w b t = (w, [], false, [], false) from by unfold rcv; rw [if_pos (.inr (.inl b1))]]; rfl
    · rw [show rcv w b t = (w, [], false, [], false) from by unfold rcv; rw [if_pos (.inr (.inr c))]]; rfl
    all_goals have hn : ¬ (w < 1 ∨ w > MC + 1 ∨ b = true) := by rw [c]; simp; omega
    · rw [show rcv w b t = (w, [], true, repl wRe w, false) from by unfold rcv; rw [if_neg hn, if_pos (.inl d)]]; rfl
    · rw [show rcv w b t = (w, [], true, repl wRe w, false) from by unfold rcv; rw [if_neg hn, if_pos (.inr e)]]; rfl
    all_goals have hm : ¬ ((opn t).2.2 ≠ 0 ∨ (opn t).1 > w) := fun h => h.elim (fun h => h d) e
    · rw [show rcv w b t = (w, [], true, repl wOk (IntKind.i64.wrap (w - 1)), false) from by unfold rcv; rw [if_neg hn, if_neg hm, if_pos f]]; rfl
    · rw [show rcv w b t = (IntKind.i64.wrap (w + 1), (opn t).2.1, true, repl wOk (opn t).1, true) from by unfold rcv; rw [if_neg hn, if_neg hm, if_neg f]]; rfl) (by kernel_rfl) (by kernel_rfl)
theorem o_recv : fRecv.ok Try.prog := factDP_ok s_receive
theorem o_recvR : fRecvR.ok Try.prog := factDP_ok s_receiveR
theorem s_law4 (w : Int) (b : Bool) (t : List UInt8) (sp : Bool) : SCall Try.prog 4 [.agg [I64 w], .agg [.bool b, .str t, .bool sp]] (.bool true) :=
  scall_v mix [fShort, fRecv, fRecvR, fAwake] ⟨o_short, o_recv, o_recvR, o_awake, trivial⟩ 1000 (.fork (.lit (.lit (.lit (.fork (.lit (.lit (.lit (.fork (.lit (.lit (.lit (.fork (.lit (.all)) (.lit (.all)))))) (.lit (.lit (.lit (.lit (.lit (.all)))))))))) (.lit (.lit (.lit (.lit (.lit (.lit (.lit (.lit (.lit (.all)))))))))))))) (.lit (.lit (.lit (.lit (.lit (.lit (.lit (.lit (.lit (.lit (.lit (.lit (.lit (.all)))))))))))))))
   (t := .req (small (List.take 120 t)) (.req (small (List.take 120 t)) (.node ((rcv w b (List.take 120 t)).fst == (rcv w b (List.take 120 t)).fst && true)
   (.node ((rcv w b (List.take 120 t)).snd.fst == (rcv w b (List.take 120 t)).snd.fst)
    (.node ((rcv w b (List.take 120 t)).snd.snd.fst == (rcv w b (List.take 120 t)).snd.snd.fst && ((rcv w b (List.take 120 t)).snd.snd.snd.fst == (rcv w b (List.take 120 t)).snd.snd.snd.fst && true))
     (.node ((rcv w b (List.take 120 t)).snd.snd.snd.snd == (rcv w b (List.take 120 t)).snd.snd.snd.snd)
      (.leaf (SV.bool true))
      (.leaf (SV.bool false)))
     (.leaf (SV.bool false)))
    (.leaf (SV.bool false)))
   (.leaf (SV.bool false)))))
   (by kernel_rfl) (by 
    have s1 := small_take t
    simp [Tree.holds, s1]) (by kernel_rfl) (by kernel_rfl)
end Go.Proofs.Ytibpodgdondakaa
set_option linter.unusedSimpArgs false
set_option linter.unusedVariables false
set_option maxRecDepth 100000
namespace Go.Proofs.Ytibpodgdondakaa
open Go.Sx
abbrev Pk : Ty := .pair .bool (.pair .str .bool)
def cloSn_p : Plan := .lit (.all)
noncomputable def cloSn_t (cap : Nat) : Tree Stop :=
   .req (true) (.leaf (Stop.done (SV.list Ty.str [])))
theorem cloSn (cap : Nat) : segR (Env.of Try.prog (sumOf [])) 1000 (fnOf Try.prog 68) .str (keepS 8 []) (codeS Try.prog 68) cloSn_p (startS Try.prog 68 [.raw (.slice none 0 cap)]) [] = cloSn_t cap := by kernel_rfl
def cloSs_p : Plan := .lit (.lit (.all))
noncomputable def cloSs_t (a : Addr) (cap : Nat) : Tree Stop :=
   .req (true) (.leaf (Stop.done (SV.list Ty.str [])))
theorem cloSs (a : Addr) (cap : Nat) : segR (Env.of Try.prog (sumOf [])) 1000 (fnOf Try.prog 68) .str (keepS 8 []) (codeS Try.prog 68) cloSs_p (startS Try.prog 68 [.raw (.slice (some a) 0 cap)]) [] = cloSs_t a cap := by kernel_rfl
def cloSc_p : Plan := .lit (.lit (.all))
noncomputable def cloSc_t (b : Ty.T .str) (l : List (Ty.T .str)) : Tree Stop :=
   .req (!(b :: l).isEmpty) (.req (decide ((0 + ((b :: l)).length) * 16 ≤ 140737488355328)) (.leaf (Stop.done (SV.list Ty.str ([] ++ (b :: l))))))
theorem cloSc (b : Ty.T .str) (l : List (Ty.T .str)) : segR (Env.of Try.prog (sumOf [])) 1000 (fnOf Try.prog 68) .str (keepS 8 []) (codeS Try.prog 68) cloSc_p (startS Try.prog 68 [.list .str (b :: l)]) [] = cloSc_t b l := by kernel_rfl
def cloPn_p : Plan := .lit (.all)
noncomputable def cloPn_t (cap : Nat) : Tree Stop :=
   .req (true) (.leaf (Stop.done (SV.list (Ty.bool.pair (Ty.str.pair Ty.bool)) [])))
theorem cloPn (cap : Nat) : segR (Env.of Try.prog (sumOf [])) 1000 (fnOf Try.prog 57) Pk (keepS 8 []) (codeS Try.prog 57) cloPn_p (startS Try.prog 57 [.raw (.slice none 0 cap)]) [] = cloPn_t cap := by kernel_rfl
def cloPs_p : Plan := .lit (.lit (.all))
noncomputable def cloPs_t (a : Addr) (cap : Nat) : Tree Stop :=
   .req (true) (.leaf (Stop.done (SV.list (Ty.bool.pair (Ty.str.pair Ty.bool)) [])))
theorem cloPs (a : Addr) (cap : Nat) : segR (Env.of Try.prog (sumOf [])) 1000 (fnOf Try.prog 57) Pk (keepS 8 []) (codeS Try.prog 57) cloPs_p (startS Try.prog 57 [.raw (.slice (some a) 0 cap)]) [] = cloPs_t a cap := by kernel_rfl
def cloPc_p : Plan := .lit (.lit (.all))
noncomputable def cloPc_t (b : Ty.T Pk) (l : List (Ty.T Pk)) : Tree Stop :=
   .req (!(b :: l).isEmpty) (.req (decide ((0 + ((b :: l)).length) * 32 ≤ 140737488355328)) (.leaf (Stop.done (SV.list (Ty.bool.pair (Ty.str.pair Ty.bool)) ([] ++ (b :: l))))))
theorem cloPc (b : Ty.T Pk) (l : List (Ty.T Pk)) : segR (Env.of Try.prog (sumOf [])) 1000 (fnOf Try.prog 57) Pk (keepS 8 []) (codeS Try.prog 57) cloPc_p (startS Try.prog 57 [.list Pk (b :: l)]) [] = cloPc_t b l := by kernel_rfl
end Go.Proofs.Ytibpodgdondakaa
set_option linter.unusedSimpArgs false
set_option linter.unusedVariables false
set_option maxRecDepth 100000
namespace Go.Proofs.Ytibpodgdondakaa
open Go.Sx

theorem clone_of {P : Program} {f : FuncId} {t : Ty} (hn : ∀ cap, SCall P f [.raw (.slice none 0 cap)] (.list t [])) (hs : ∀ a cap, SCall P f [.raw (.slice (some a) 0 cap)] (.list t [])) (l : List t.T)
    (hc : ∀ b r, l = b :: r → SCall P f [.list t (b :: r)] (.list t (b :: r))) : SCall P f [.list t l] (.list t l) := by
  cases l with
  | cons b r => exact hc b r rfl
  | nil =>
    intro m w0 R0 ρ w vs hm hvs
    obtain ⟨u, us, rfl, h1, h2⟩ := hvs
    rw [show us = [] from h2]
    obtain ⟨a, cap, hxv, _, _⟩ := h1
    injection hxv with hxv
    subst hxv
    cases a with
    | none => exact hn cap m w0 R0 ρ w [_] hm ⟨_, [], rfl, rfl, rfl⟩
    | some a => exact hs a cap m w0 R0 ρ w [_] hm ⟨_, [], rfl, rfl, rfl⟩

def few2 (n : Nat) : Bool := decide ((n : Int) ≤ 100000)
theorem s_cloS (l : List (List UInt8)) (h : few2 l.length = true) : SCall Try.prog 68 [.list .str l] (.list .str l) := by
  have h : (l.length : Int) ≤ 100000 := by simpa [few2] using h
  refine clone_of (t := .str) (fun cap => ?_) (fun a cap => ?_) l (fun b r hl => ?_)
  · refine scallR_loops rfl rfl (by kernel_rfl) (runsR_seg (hK (l := []) trivial) (n := 1000) (hint := .str) (keep := keepS 8 []) (p := cloSn_p) (boxes := []) rfl ?_)
    have e := cloSn cap
    unfold startS codeS at e
    erw [e]
    exact ⟨rfl, rfl⟩
  · refine scallR_loops rfl rfl (by kernel_rfl) (runsR_seg (hK (l := []) trivial) (n := 1000) (hint := .str) (keep := keepS 8 []) (p := cloSs_p) (boxes := []) rfl ?_)
    have e := cloSs a cap
    unfold startS codeS at e
    erw [e]
    exact ⟨rfl, rfl⟩
  · subst hl
    refine scallR_loops rfl rfl (by kernel_rfl) (runsR_seg (hK (l := []) trivial) (n := 1000) (hint := .str) (keep := keepS 8 []) (p := cloSc_p) (boxes := []) rfl ?_)
    have e := cloSc b r
    unfold startS codeS at e
    erw [e]
    refine ⟨rfl, ?_, rfl⟩
    rw [decide_eq_true_eq]
    have h : ((List.length (α := Ty.T .str) (b :: r) : Nat) : Int) ≤ 100000 := h
    omega
theorem s_cloP (l : List (Ty.T Pk)) (h : few2 (List.length l) = true) : SCall Try.prog 57 [.list Pk l] (.list Pk l) := by
  have h : (List.length l : Int) ≤ 100000 := by simpa [few2] using h
  refine clone_of (t := Pk) (fun cap => ?_) (fun a cap => ?_) l (fun b r hl => ?_)
  · refine scallR_loops rfl rfl (by kernel_rfl) (runsR_seg (hK (l := []) trivial) (n := 1000) (hint := Pk) (keep := keepS 8 []) (p := cloPn_p) (boxes := []) rfl ?_)
    have e := cloPn cap
    unfold startS codeS at e
    erw [e]
    exact ⟨rfl, rfl⟩
  · refine scallR_loops rfl rfl (by kernel_rfl) (runsR_seg (hK (l := []) trivial) (n := 1000) (hint := Pk) (keep := keepS 8 []) (p := cloPs_p) (boxes := []) rfl ?_)
    have e := cloPs a cap
    unfold startS codeS at e
    erw [e]
    exact ⟨rfl, rfl⟩
  · subst hl
    refine scallR_loops rfl rfl (by kernel_rfl) (runsR_seg (hK (l := []) trivial) (n := 1000) (hint := Pk) (keep := keepS 8 []) (p := cloPc_p) (boxes := []) rfl ?_)
    have e := cloPc b r
    unfold startS codeS at e
    erw [e]
    refine ⟨rfl, ?_, rfl⟩
    rw [decide_eq_true_eq]
    omega
def fCloS : Fact := ⟨68, fun args => match args with
  | [.list .str l] => some (.req (few2 (List.length l)) (.leaf (.list .str l)))
  | [.nilS] => some (.leaf (.list .str []))
  | _ => none⟩
def fCloP : Fact := ⟨57, fun args => match args with
  | [.list (.pair .bool (.pair .str .bool)) l] => some (.req (few2 (List.length l)) (.leaf (.list Pk l)))
  | _ => none⟩
theorem nil_list {P : Program} {f : FuncId} {t : Ty} {v : SV} (h : SCall P f [.list t []] v) : SCall P f [.nilS] v := by
  intro m w0 R0 ρ w vs hm hvs
  obtain ⟨u, us, rfl, h1, h2⟩ := hvs
  refine h m w0 R0 ρ w _ hm ⟨u, us, rfl, ?_, h2⟩
  exact ⟨none, 0, by rw [show u = _ from h1]; rfl, Nat.le_refl _, fun h => absurd h (Nat.lt_irrefl _)⟩
theorem o_cloS : fCloS.ok Try.prog := fun args t ht => by
  simp only [fCloS] at ht
  split at ht
  · injection ht with ht; subst ht; exact s_cloS _
  · injection ht with ht; subst ht
    exact nil_list (t := .str) (s_cloS [] rfl)
  · cases ht
theorem o_cloP : fCloP.ok Try.prog := fun args t ht => by
  simp only [fCloP] at ht
  split at ht
  · injection ht with ht; subst ht; exact s_cloP _
  · cases ht
end Go.Proofs.Ytibpodgdondakaa
set_option linter.unusedSimpArgs false
set_option linter.unusedVariables false
set_option maxRecDepth 100000
namespace Go.Proofs.Ytibpodgdondakaa
open Go.Sx

structure Ho where
  ls : List (List UInt8)
  ba : Int
  ne : Int
  wi : Int
  re : Int
  se : Int
def Ho.cells (h : Ho) : List SV := [.list .str h.ls, I64 h.ba, I64 h.ne, I64 h.wi, I64 h.re, I64 h.se]
def Ho.sv (h : Ho) : SV := .agg h.cells
def zeroH : Ho := ⟨[], 0, 0, 0, 0, 0⟩
def zcells : List SV := [.nilS, I64 0, I64 0, I64 0, I64 0, I64 0]
/-- Facts on hosts. -/
def factH (f : FuncId) (h : Ho → Tree SV) : Fact := ⟨f, fun args => match args with
  | [.agg [.list .str l, .int .i64 a, .int .i64 b, .int .i64 c, .int .i64 d, .int .i64 e]] => some (.req (few2 (List.length l)) (h ⟨l, a, b, c, d, e⟩))
  | _ => none⟩
theorem factH_ok {P : Program} {f : FuncId} {h : Ho → Tree SV} (k : ∀ x : Ho, few2 x.ls.length = true → (h x).says (SCall P f [x.sv])) : (factH f h).ok P := fun args t ht => by
  simp only [factH] at ht
  split at ht
  · injection ht with ht; subst ht; exact k ⟨_, _, _, _, _, _⟩
  · cases ht

def gt (l : List (List UInt8)) (i : Int) : List UInt8 := l.getD i.toNat []
def sendB (t : List UInt8) : Bool := decide ((t.length : Int) ≤ 96) && plainB t
def smalls (l : List (List UInt8)) : Prop := ∀ t ∈ l, small t = true
end Go.Proofs.Ytibpodgdondakaa
set_option linter.unusedSimpArgs false
set_option linter.unusedVariables false
set_option maxRecDepth 100000
namespace Go.Proofs.Ytibpodgdondakaa
open Go.Sx
def few0_p : Plan := .all
noncomputable def few0_t (h : Ho) : Tree Stop :=
   .leaf (Stop.at (loopOf Try.prog 26 0) 28 (slotsS 28 [(1, SV.ptr 0 0), (2, SV.ptr 1 0), (3, SV.nilS), (4, I64 0)]) [some (Box.cells [SV.list Ty.str h.ls, I64 h.ba, I64 h.ne, I64 h.wi, I64 h.re, I64 h.se]), some (Box.cells [SV.nilS, I64 0, I64 0, I64 0, I64 0, I64 0])])
theorem few0 (h : Ho) : segR (Env.of Try.prog (sumOf [fShort])) 1000 (fnOf Try.prog 26) .str (keepS 28 [1,2,3,4]) (codeS Try.prog 26) few0_p (startS Try.prog 26 [h.sv]) [] = few0_t h := by kernel_rfl
def few1n_p : Plan := .fork (.lit (.lit (.fork (.all) (.all)))) (.lit (.lit (.lit (.all))))
noncomputable def few1n_t (h : Ho) (i : Int) : Tree Stop :=
   .node (decide (i < (↑h.ls.length : Int)))
 (.node (decide (i < 20))
  (.req (decide (0 ≤ i) && decide (i < (↑h.ls.length : Int))) (.req (decide ([List.take 120 ((gt h.ls i))].length * 16 ≤ 140737488355328)) (.leaf (Stop.at (loopOf Try.prog 26 0) 28 (slotsS 28 [(1, SV.ptr 0 0), (2, SV.ptr 1 0), (3, SV.row 2), (4, I64 (IntKind.i64.wrap (i + 1)))]) [some (Box.cells [SV.list Ty.str h.ls, I64 h.ba, I64 h.ne, I64 h.wi, I64 h.re, I64 h.se]), some (Box.cells [SV.nilS, I64 0, I64 0, I64 0, I64 0, I64 0]), some (Box.rows Ty.str [List.take 120 ((gt h.ls i))])]))))
  (.leaf (Stop.done (SV.agg [SV.list Ty.str [], I64 h.ba, I64 h.ne, I64 h.wi, I64 h.re, I64 h.se]))))
 (.leaf (Stop.done (SV.agg [SV.list Ty.str [], I64 h.ba, I64 h.ne, I64 h.wi, I64 h.re, I64 h.se])))
theorem few1n (h : Ho) (i : Int) : segR (Env.of Try.prog (sumOf [fShort])) 1000 (fnOf Try.prog 26) .str (keepS 28 [1,2,3,4]) (loopOf Try.prog 26 0) few1n_p (slotsS 28 [(1, .ptr 0 0), (2, .ptr 1 0), (3, .nilS), (4, I64 i)]) [some (.cells h.cells), some (.cells zcells)] = few1n_t h i := by kernel_rfl
def few1_p : Plan := .fork (.lit (.lit (.fork (.all) (.all)))) (.lit (.lit (.lit (.all))))
noncomputable def few1_t (h : Ho) (l : List (List UInt8)) (i : Int) : Tree Stop :=
   .node (decide (i < (↑h.ls.length : Int)))
 (.node (decide (i < 20))
  (.req (decide (0 ≤ i) && decide (i < (↑h.ls.length : Int))) (.req (decide ((l.length + [List.take 120 ((gt h.ls i))].length) * 16 ≤ 140737488355328)) (.leaf (Stop.at (loopOf Try.prog 26 0) 28 (slotsS 28 [(1, SV.ptr 0 0), (2, SV.ptr 1 0), (3, SV.row 2), (4, I64 (IntKind.i64.wrap (i + 1)))]) [some (Box.cells [SV.list Ty.str h.ls, I64 h.ba, I64 h.ne, I64 h.wi, I64 h.re, I64 h.se]), some (Box.cells [SV.nilS, I64 0, I64 0, I64 0, I64 0, I64 0]), some (Box.rows Ty.str (l ++ [List.take 120 ((gt h.ls i))]))]))))
  (.leaf (Stop.done (SV.agg [SV.list Ty.str l, I64 h.ba, I64 h.ne, I64 h.wi, I64 h.re, I64 h.se]))))
 (.leaf (Stop.done (SV.agg [SV.list Ty.str l, I64 h.ba, I64 h.ne, I64 h.wi, I64 h.re, I64 h.se])))
theorem few1 (h : Ho) (l : List (List UInt8)) (i : Int) : segR (Env.of Try.prog (sumOf [fShort])) 1000 (fnOf Try.prog 26) .str (keepS 28 [1,2,3,4]) (loopOf Try.prog 26 0) few1_p (slotsS 28 [(1, .ptr 0 0), (2, .ptr 1 0), (3, .row 2), (4, I64 i)]) [some (.cells h.cells), some (.cells zcells), some (.rows .str l)] = few1_t h l i := by kernel_rfl
def sta0_p : Plan := .all
noncomputable def sta0_t (l : List (List UInt8)) (w : Int) : Tree Stop :=
   .leaf (Stop.at (loopOf Try.prog 29 0) 36 (slotsS 36 [(0, SV.list Ty.str l), (1, I64 w), (4, SV.ptr 0 0), (8, SV.list Ty.str l), (9, I64 (↑l.length : Int)), (10, I64 0)]) [some (Box.cells [SV.nilS, I64 0, I64 0, I64 0, I64 0, I64 0])])
theorem sta0 (l : List (List UInt8)) (w : Int) : segR (Env.of Try.prog (sumOf [fSendable, fCloS])) 1000 (fnOf Try.prog 29) .str (keepS 36 [0,1,4,8,9,10]) (codeS Try.prog 29) sta0_p (startS Try.prog 29 [.list .str l, I64 w]) [] = sta0_t l w := by kernel_rfl
def sta1_p : Plan := .fork (.fork (.all) (.all)) (.fork (.lit (.lit (.lit (.all)))) (.lit (.lit (.fork (.all) (.fork (.all) (.all))))))
noncomputable def sta1_t (l : List (List UInt8)) (w k i : Int) : Tree Stop :=
   .node (decide (i < k))
 (.req (decide (0 ≤ i) && decide (i < (↑l.length : Int))) (.req (small (gt l i)) (.node (!(decide (((gt l i).length : Int) ≤ 96) && plainB (gt l i)))
    (.leaf (Stop.done (SV.tuple [SV.agg [SV.list Ty.str [], I64 0, I64 0, I64 0, I64 0, I64 0], I64 1])))
    (.leaf (Stop.at (loopOf Try.prog 29 0) 36 (slotsS 36 [(0, SV.list Ty.str l), (1, I64 w), (4, SV.ptr 0 0), (8, SV.list Ty.str l), (9, I64 k), (10, I64 (IntKind.i64.wrap (i + 1)))]) [some (Box.cells [SV.nilS, I64 0, I64 0, I64 0, I64 0, I64 0])])))))
 (.node (decide (w < 1))
  (.leaf (Stop.done (SV.tuple [SV.agg [SV.list Ty.str [], I64 0, I64 0, I64 0, I64 0, I64 0], I64 1])))
  (.node (decide (w > 8))
   (.leaf (Stop.done (SV.tuple [SV.agg [SV.list Ty.str [], I64 0, I64 0, I64 0, I64 0, I64 0], I64 1])))
   (.node (decide ((↑l.length : Int) > 65536))
    (.leaf (Stop.done (SV.tuple [SV.agg [SV.list Ty.str [], I64 0, I64 0, I64 0, I64 0, I64 0], I64 2])))
    (.req (few2 l.length) (.leaf (Stop.done (SV.tuple [SV.agg [SV.list Ty.str l, I64 1, I64 1, I64 w, I64 0, I64 0], I64 0])))))))
theorem sta1 (l : List (List UInt8)) (w k i : Int) : segR (Env.of Try.prog (sumOf [fSendable, fCloS])) 1000 (fnOf Try.prog 29) .str (keepS 36 [0,1,4,8,9,10]) (loopOf Try.prog 29 0) sta1_p (slotsS 36 [(0, .list .str l), (1, I64 w), (4, .ptr 0 0), (8, .list .str l), (9, I64 k), (10, I64 i)]) [some (.cells zcells)] = sta1_t l w k i := by kernel_rfl
def staR0_p : Plan := .all
noncomputable def staR0_t (l : List (List UInt8)) (w : Int) : Tree Stop :=
   .leaf (Stop.at (loopOf Try.prog 30 0) 44 (slotsS 44 [(0, SV.list Ty.str l), (1, I64 w), (4, SV.ptr 0 0), (6, I64 0)]) [some (Box.cells [SV.nilS, I64 0, I64 0, I64 0, I64 0, I64 0])])
theorem staR0 (l : List (List UInt8)) (w : Int) : segR (Env.of Try.prog (sumOf [fPlainR])) 1000 (fnOf Try.prog 30) .str (keepS 44 [0,1,4,6]) (codeS Try.prog 30) staR0_p (startS Try.prog 30 [.list .str l, I64 w]) [] = staR0_t l w := by kernel_rfl
def staR1_p : Plan := .fork (.fork (.lit (.lit (.lit (.lit (.lit (.lit (.lit (.all)))))))) (.lit (.lit (.lit (.lit (.lit (.lit (.fork (.all) (.all))))))))) (.fork (.lit (.lit (.lit (.all)))) (.lit (.lit (.fork (.all) (.fork (.all) (.fork (.all) (.all)))))))
noncomputable def staR1_t (l : List (List UInt8)) (w i : Int) : Tree Stop :=
   .node (decide (i < (↑l.length : Int)))
 (.req (decide (0 ≤ i) && decide (i < (↑l.length : Int))) (.req (small (gt l i)) (.node (!plainB (gt l i))
    (.leaf (Stop.done (SV.tuple [SV.agg [SV.list Ty.str [], I64 0, I64 0, I64 0, I64 0, I64 0], I64 1])))
    (.req (decide (0 ≤ i) && decide (i < (↑l.length : Int))) (.node (decide (((gt l i).length : Int) > 96))
      (.leaf (Stop.done (SV.tuple [SV.agg [SV.list Ty.str [], I64 0, I64 0, I64 0, I64 0, I64 0], I64 1])))
      (.leaf (Stop.at (loopOf Try.prog 30 0) 44 (slotsS 44 [(0, SV.list Ty.str l), (1, I64 w), (4, SV.ptr 0 0), (6, I64 (IntKind.i64.wrap (i + 1)))]) [some (Box.cells [SV.nilS, I64 0, I64 0, I64 0, I64 0, I64 0])])))))))
 (.node (decide (w < 1))
  (.leaf (Stop.done (SV.tuple [SV.agg [SV.list Ty.str [], I64 0, I64 0, I64 0, I64 0, I64 0], I64 1])))
  (.node (decide (w > 8))
   (.leaf (Stop.done (SV.tuple [SV.agg [SV.list Ty.str [], I64 0, I64 0, I64 0, I64 0, I64 0], I64 1])))
   (.node (decide ((↑l.length : Int) > 65536))
    (.leaf (Stop.done (SV.tuple [SV.agg [SV.list Ty.str [], I64 0, I64 0, I64 0, I64 0, I64 0], I64 2])))
    (.node ((l).isEmpty)
     (.leaf (Stop.done (SV.tuple [SV.agg [SV.list Ty.str [], I64 1, I64 1, I64 w, I64 0, I64 0], I64 0])))
     (.req (decide ((0 + (l).length) * 16 ≤ 140737488355328)) (.leaf (Stop.done (SV.tuple [SV.agg [SV.list Ty.str ([] ++ l), I64 1, I64 1, I64 w, I64 0, I64 0], I64 0]))))))))
theorem staR1 (l : List (List UInt8)) (w i : Int) : segR (Env.of Try.prog (sumOf [fPlainR])) 1000 (fnOf Try.prog 30) .str (keepS 44 [0,1,4,6]) (loopOf Try.prog 30 0) staR1_p (slotsS 44 [(0, .list .str l), (1, I64 w), (4, .ptr 0 0), (6, I64 i)]) [some (.cells zcells)] = staR1_t l w i := by kernel_rfl
end Go.Proofs.Ytibpodgdondakaa
set_option linter.unusedSimpArgs false
set_option linter.unusedVariables false
set_option maxRecDepth 100000
namespace Go.Proofs.Ytibpodgdondakaa
open Go.Sx

theorem gt_drop {l : List (List UInt8)} {i : Int} (h0 : 0 ≤ i) (h : i < l.length) : l.drop i.toNat = gt l i :: l.drop (i + 1).toNat ∧ gt l i ∈ l ∧ l.take (i + 1).toNat = l.take i.toNat ++ [gt l i] := by
  have hl : i.toNat < l.length := by omega
  have e : gt l i = l[i.toNat] := by
    unfold gt
    rw [List.getD_eq_getElem?_getD, List.getElem?_eq_getElem hl]; rfl
  refine ⟨?_, ?_, ?_⟩
  · rw [List.drop_eq_getElem_cons hl, e, show (i + 1).toNat = i.toNat + 1 by omega]
  · rw [e]; exact List.getElem_mem hl
  · rw [e, show (i + 1).toNat = i.toNat + 1 by omega, List.take_succ_eq_append_getElem hl]

/-! ### Few lines -/

def fewL (l : List (List UInt8)) : List (List UInt8) := (l.take 20).map (List.take 120)
def Ho.few (h : Ho) : Ho := { h with ls := fewL h.ls }

structure SW where
  l : List (List UInt8)
  i : Int
theorem few_loop (h : Ho) : ∀ a : SW, (0 ≤ a.i ∧ a.i ≤ 20 ∧ a.i ≤ h.ls.length ∧ a.l = (h.ls.take a.i.toNat).map (List.take 120)) →
    RunsR Try.prog (fnOf Try.prog 26) h.few.sv (loopOf Try.prog 26 0) (slotsS 28 [(1, .ptr 0 0), (2, .ptr 1 0), (3, .row 2), (4, I64 a.i)]) [some (.cells h.cells), some (.cells zcells), some (.rows .str a.l)] := by
  refine runsR_of (hK (l := [fShort]) ⟨o_short, trivial⟩) (n := 1000) (hint := .str) rfl (fun a : SW => 0 ≤ a.i ∧ a.i ≤ 20 ∧ a.i ≤ h.ls.length ∧ a.l = (h.ls.take a.i.toNat).map (List.take 120)) (fun a => (20 - a.i).toNat) (keepS 28 [1, 2, 3, 4]) (fun _ => loopOf Try.prog 26 0) (fun a => slotsS 28 [(1, .ptr 0 0), (2, .ptr 1 0), (3, .row 2), (4, I64 a.i)]) (fun a => [some (.cells h.cells), some (.cells zcells), some (.rows .str a.l)]) (fun _ => few1_p) fun a ha => ?_
  obtain ⟨l, i⟩ := a
  obtain ⟨h0, h20, hl, he⟩ := ha
  dsimp only at h0 h20 hl he ⊢
  rw [few1]
  unfold few1_t
  have hlen : l.length ≤ 20 := by rw [he, List.length_map, List.length_take]; omega
  have fin : (i = 20 ∨ (h.ls.length : Int) ≤ i) → SV.agg [SV.list Ty.str l, I64 h.ba, I64 h.ne, I64 h.wi, I64 h.re, I64 h.se] = h.few.sv := by
    intro hc
    have : l = fewL h.ls := by
      rw [he]; unfold fewL
      rcases hc with hc | hc
      · rw [hc]; rfl
      · rw [List.take_of_length_le (by omega), List.take_of_length_le (by omega)]
    rw [this]; rfl
  simp only [Tree.holds, decide_eq_true_eq, decide_eq_false_iff_not, Bool.and_eq_true]
  refine ⟨fun h1 => ⟨fun h2 => ⟨⟨h0, h1⟩, ?_, slotsS_len _ _, .inl ?_⟩, fun h2 => fin (.inl (by omega))⟩, fun h1 => fin (.inr (by omega))⟩
  · simp; omega
  · rw [wrap64 (by omega) (by omega)]
    obtain ⟨g1, g2, g3⟩ := gt_drop h0 h1
    refine ⟨⟨l ++ [List.take 120 (gt h.ls i)], i + 1⟩, ⟨by dsimp only; omega, by dsimp only; omega, by dsimp only; omega, ?_⟩, by dsimp only; omega, by trivial, rfl, rfl⟩
    dsimp only
    rw [g3, List.map_append, ← he]; rfl

theorem s_few (h : Ho) : SCall Try.prog 26 [h.sv] h.few.sv := by
  refine scallR_loops rfl rfl (by kernel_rfl) (runsR_seg (hK (l := [fShort]) ⟨o_short, trivial⟩) (n := 1000) (hint := .str) (keep := keepS 28 [1, 2, 3, 4]) (p := few0_p) (boxes := []) rfl ?_)
  have e := few0 h
  unfold startS codeS at e
  erw [e]
  refine ⟨slotsS_len _ _, ?_⟩
  refine runsR_seg (hK (l := [fShort]) ⟨o_short, trivial⟩) (n := 1000) (hint := .str) (keep := keepS 28 [1, 2, 3, 4]) (p := few1n_p) rfl ?_
  have e2 := few1n h 0
  unfold zcells Ho.cells at e2
  rw [e2]
  unfold few1n_t
  simp only [Tree.holds, decide_eq_true_eq, decide_eq_false_iff_not, Bool.and_eq_true]
  refine ⟨fun h1 => ⟨fun _ => ⟨⟨Int.le_refl 0, h1⟩, by simp, slotsS_len _ _, ?_⟩, fun h2 => absurd (by decide) h2⟩, fun h1 => ?_⟩
  · obtain ⟨g1, g2, g3⟩ := gt_drop (Int.le_refl 0) h1
    refine few_loop h ⟨[List.take 120 (gt h.ls 0)], 1⟩ ⟨by dsimp only; omega, by dsimp only; omega, by dsimp only; omega, ?_⟩
    dsimp only
    have g3 : h.ls.take 1 = [gt h.ls 0] := g3
    show _ = (h.ls.take 1).map (List.take 120)
    rw [g3]; rfl
  · have : h.ls = [] := List.eq_nil_of_length_eq_zero (by omega)
    unfold Ho.sv Ho.cells Ho.few fewL
    rw [this]; rfl
def factHo (f : FuncId) (h : Ho → Tree SV) : Fact := ⟨f, fun args => match args with
  | [.agg [.list .str l, .int .i64 a, .int .i64 b, .int .i64 c, .int .i64 d, .int .i64 e]] => some (h ⟨l, a, b, c, d, e⟩)
  | _ => none⟩
theorem factHo_ok {P : Program} {f : FuncId} {h : Ho → Tree SV} (k : ∀ x : Ho, (h x).says (SCall P f [x.sv])) : (factHo f h).ok P := fun args t ht => by
  simp only [factHo] at ht
  split at ht
  · injection ht with ht; subst ht; exact k ⟨_, _, _, _, _, _⟩
  · cases ht
def fFew : Fact := factHo 26 fun h => .leaf (.agg [.list .str (fewL h.ls), I64 h.ba, I64 h.ne, I64 h.wi, I64 h.re, I64 h.se])
theorem o_few : fFew.ok Try.prog := factHo_ok s_few

/-! ### The start -/

def smallsB (l : List (List UInt8)) : Bool := l.all small && few2 l.length
def sendsB (l : List (List UInt8)) : Bool := l.all sendB
def staV (l : List (List UInt8)) (w : Int) : Ho × Int :=
  if sendsB l = false ∨ w < 1 ∨ w > 8 then (zeroH, 1) else if (l.length : Int) > 65536 then (zeroH, 2) else (⟨l, 1, 1, w, 0, 0⟩, 0)
def staS (r : Ho × Int) : SV := .tuple [r.1.sv, I64 r.2]

theorem smalls_get {l : List (List UInt8)} (h : smallsB l = true) {i : Int} (h0 : 0 ≤ i) (hi : i < l.length) : small (gt l i) = true := by
  simp only [smallsB, Bool.and_eq_true, List.all_eq_true] at h
  exact h.1 _ (gt_drop h0 hi).2.1

theorem sta_loop (l : List (List UInt8)) (hs : smallsB l = true) (w : Int) (ok : Bool) (hok : ok = sendsB l) : ∀ i : Int, (0 ≤ i ∧ i ≤ l.length ∧ ok = sendsB (l.drop i.toNat)) →
    RunsR Try.prog (fnOf Try.prog 29) (staS (staV l w)) (loopOf Try.prog 29 0) (slotsS 36 [(0, .list .str l), (1, I64 w), (4, .ptr 0 0), (8, .list .str l), (9, I64 l.length), (10, I64 i)]) [some (.cells zcells)] := by
  have hf : few2 l.length = true := by simp only [smallsB, Bool.and_eq_true] at hs; exact hs.2
  have hlen : (l.length : Int) ≤ 100000 := by simpa [few2] using hf
  refine runsR_of (hK (l := [fSendable, fCloS]) ⟨o_sendable, o_cloS, trivial⟩) (n := 1000) (hint := .str) rfl (fun i : Int => 0 ≤ i ∧ i ≤ l.length ∧ ok = sendsB (l.drop i.toNat)) (fun i => ((l.length : Int) - i).toNat) (keepS 36 [0, 1, 4, 8, 9, 10]) (fun _ => loopOf Try.prog 29 0) (fun i => slotsS 36 [(0, .list .str l), (1, I64 w), (4, .ptr 0 0), (8, .list .str l), (9, I64 l.length), (10, I64 i)]) (fun _ => [some (.cells zcells)]) (fun _ => sta1_p) fun i hi => ?_
  obtain ⟨h0, hl, hv⟩ := hi
  rw [sta1]
  unfold sta1_t
  have bad : sendsB l = false ∨ w < 1 ∨ w > 8 → SV.tuple [SV.agg [SV.list .str [], I64 0, I64 0, I64 0, I64 0, I64 0], I64 1] = staS (staV l w) := fun h => by unfold staV; rw [if_pos h]; rfl
  simp only [Tree.holds, decide_eq_true_eq, decide_eq_false_iff_not, Bool.and_eq_true, Bool.not_eq_true', Bool.not_eq_false', Bool.and_eq_false_iff]
  refine ⟨fun h => ?_, fun h => ?_⟩
  · obtain ⟨g1, g2, g3⟩ := gt_drop h0 h
    rw [g1] at hv
    have hv : ok = (sendB (gt l i) && sendsB (l.drop (i + 1).toNat)) := hv
    refine ⟨⟨h0, h⟩, smalls_get hs h0 h, fun c => bad (.inl ?_), fun c => ⟨slotsS_len _ _, .inl ?_⟩⟩
    · rw [← hok, hv]
      have : sendB (gt l i) = false := by simp only [sendB, Bool.and_eq_false_iff, decide_eq_false_iff_not]; exact c
      rw [this]; rfl
    · rw [wrap64 (by omega) (by omega)]
      refine ⟨i + 1, ⟨by omega, by omega, ?_⟩, by omega, by trivial, rfl, by trivial⟩
      have : sendB (gt l i) = true := by simp only [sendB, Bool.and_eq_true, decide_eq_true_eq]; exact c
      rw [hv, this, Bool.true_and]
  · have hd : l.drop i.toNat = [] := List.drop_eq_nil_of_le (by omega)
    rw [hd] at hv
    have hS : sendsB l = true := by rw [← hok, hv]; rfl
    refine ⟨fun c => bad (.inr (.inl c)), fun c => ⟨fun d => bad (.inr (.inr d)), fun d => ⟨fun e => ?_, fun e => ⟨hf, ?_⟩⟩⟩⟩
    · unfold staV; rw [if_neg (by rw [hS]; simp; omega), if_pos e]; rfl
    · unfold staV; rw [if_neg (by rw [hS]; simp; omega), if_neg e]; rfl
theorem s_sta (l : List (List UInt8)) (w : Int) (hs : smallsB l = true) : SCall Try.prog 29 [.list .str l, I64 w] (staS (staV l w)) := by
  refine scallR_loops rfl rfl (by kernel_rfl) (runsR_seg (hK (l := [fSendable, fCloS]) ⟨o_sendable, o_cloS, trivial⟩) (n := 1000) (hint := .str) (keep := keepS 36 [0, 1, 4, 8, 9, 10]) (p := sta0_p) (boxes := []) rfl ?_)
  have e := sta0 l w
  unfold startS codeS at e
  erw [e]
  exact ⟨slotsS_len _ _, sta_loop l hs w _ rfl 0 ⟨Int.le_refl 0, by omega, rfl⟩⟩

theorem staR_loop (l : List (List UInt8)) (hs : smallsB l = true) (w : Int) (ok : Bool) (hok : ok = sendsB l) : ∀ i : Int, (0 ≤ i ∧ i ≤ l.length ∧ ok = sendsB (l.drop i.toNat)) →
    RunsR Try.prog (fnOf Try.prog 30) (staS (staV l w)) (loopOf Try.prog 30 0) (slotsS 44 [(0, .list .str l), (1, I64 w), (4, .ptr 0 0), (6, I64 i)]) [some (.cells zcells)] := by
  have hf : few2 l.length = true := by simp only [smallsB, Bool.and_eq_true] at hs; exact hs.2
  have hlen : (l.length : Int) ≤ 100000 := by simpa [few2] using hf
  refine runsR_of (hK (l := [fPlainR]) ⟨o_plainR, trivial⟩) (n := 1000) (hint := .str) rfl (fun i : Int => 0 ≤ i ∧ i ≤ l.length ∧ ok = sendsB (l.drop i.toNat)) (fun i => ((l.length : Int) - i).toNat) (keepS 44 [0, 1, 4, 6]) (fun _ => loopOf Try.prog 30 0) (fun i => slotsS 44 [(0, .list .str l), (1, I64 w), (4, .ptr 0 0), (6, I64 i)]) (fun _ => [some (.cells zcells)]) (fun _ => staR1_p) fun i hi => ?_
  obtain ⟨h0, hl, hv⟩ := hi
  rw [staR1]
  unfold staR1_t
  have bad : sendsB l = false ∨ w < 1 ∨ w > 8 → SV.tuple [SV.agg [SV.list .str [], I64 0, I64 0, I64 0, I64 0, I64 0], I64 1] = staS (staV l w) := fun h => by unfold staV; rw [if_pos h]; rfl
  simp only [Tree.holds, decide_eq_true_eq, decide_eq_false_iff_not, Bool.and_eq_true, Bool.not_eq_true', Bool.not_eq_false']
  refine ⟨fun h => ?_, fun h => ?_⟩
  · obtain ⟨g1, g2, g3⟩ := gt_drop h0 h
    rw [g1] at hv
    have hv : ok = (sendB (gt l i) && sendsB (l.drop (i + 1).toNat)) := hv
    refine ⟨⟨h0, h⟩, smalls_get hs h0 h, fun c => bad (.inl ?_), fun c => ⟨⟨h0, h⟩, fun d => bad (.inl ?_), fun d => ⟨slotsS_len _ _, .inl ?_⟩⟩⟩
    · rw [← hok, hv]
      have : sendB (gt l i) = false := by simp only [sendB, c, Bool.and_false]
      rw [this]; rfl
    · rw [← hok, hv]
      have : sendB (gt l i) = false := by
        have : decide (((gt l i).length : Int) ≤ 96) = false := by rw [decide_eq_false_iff_not]; omega
        simp only [sendB, this, Bool.false_and]
      rw [this]; rfl
    · rw [wrap64 (by omega) (by omega)]
      refine ⟨i + 1, ⟨by omega, by omega, ?_⟩, by omega, by trivial, rfl, by trivial⟩
      have : sendB (gt l i) = true := by simp only [sendB, Bool.and_eq_true, decide_eq_true_eq]; exact ⟨by omega, c⟩
      rw [hv, this, Bool.true_and]
  · have hd : l.drop i.toNat = [] := List.drop_eq_nil_of_le (by omega)
    rw [hd] at hv
    have hS : sendsB l = true := by rw [← hok, hv]; rfl
    refine ⟨fun c => bad (.inr (.inl c)), fun c => ⟨fun d => bad (.inr (.inr d)), fun d => ⟨fun e => ?_, fun e => ⟨fun k => ?_, fun k => ⟨?_, ?_⟩⟩⟩⟩⟩
    · unfold staV; rw [if_neg (by rw [hS]; simp; omega), if_pos e]; rfl
    · have : l = [] := by simpa using k
      unfold staV; rw [if_neg (by rw [hS]; simp; omega), if_neg e]
      subst this; rfl
    · omega
    · unfold staV; rw [if_neg (by rw [hS]; simp; omega), if_neg e]; rfl
theorem s_staR (l : List (List UInt8)) (w : Int) (hs : smallsB l = true) : SCall Try.prog 30 [.list .str l, I64 w] (staS (staV l w)) := by
  refine scallR_loops rfl rfl (by kernel_rfl) (runsR_seg (hK (l := [fPlainR]) ⟨o_plainR, trivial⟩) (n := 1000) (hint := .str) (keep := keepS 44 [0, 1, 4, 6]) (p := staR0_p) (boxes := []) rfl ?_)
  have e := staR0 l w
  unfold startS codeS at e
  erw [e]
  exact ⟨slotsS_len _ _, staR_loop l hs w _ rfl 0 ⟨Int.le_refl 0, by omega, rfl⟩⟩

def factSta (f : FuncId) : Fact := ⟨f, fun args => match args with
  | [.list .str l, .int .i64 w] => some (.req (smallsB l) (.leaf (.tuple [.agg [.list .str (staV l w).1.ls, I64 (staV l w).1.ba, I64 (staV l w).1.ne, I64 (staV l w).1.wi, I64 (staV l w).1.re, I64 (staV l w).1.se], I64 (staV l w).2])))
  | _ => none⟩
def fSta : Fact := factSta 29
def fStaR : Fact := factSta 30
theorem o_sta : fSta.ok Try.prog := fun args t ht => by
  simp only [fSta, factSta] at ht
  split at ht
  · injection ht with ht; subst ht; exact s_sta _ _
  · cases ht
theorem o_staR : fStaR.ok Try.prog := fun args t ht => by
  simp only [fStaR, factSta] at ht
  split at ht
  · injection ht with ht; subst ht; exact s_staR _ _
  · cases ht
end Go.Proofs.Ytibpodgdondakaa
set_option linter.unusedSimpArgs false
set_option linter.unusedVariables false
set_option maxRecDepth 100000
namespace Go.Proofs.Ytibpodgdondakaa
open Go.Sx
def val0_p : Plan := .fork (.lit (.lit (.lit (.lit (.lit (.lit (.lit (.lit (.lit (.lit (.lit (.lit (.lit (.lit (.lit (.lit (.lit (.lit (.lit (.lit (.lit (.lit (.lit (.lit (.lit (.lit (.lit (.lit (.lit (.lit (.lit (.lit (.lit (.lit (.lit (.lit (.all))))))))))))))))))))))))))))))))))))) (.lit (.lit (.lit (.fork (.lit (.lit (.lit (.lit (.lit (.lit (.lit (.lit (.lit (.lit (.lit (.lit (.lit (.lit (.lit (.lit (.lit (.lit (.lit (.lit (.lit (.lit (.lit (.lit (.lit (.lit (.lit (.lit (.lit (.lit (.lit (.lit (.all))))))))))))))))))))))))))))))))) (.lit (.lit (.lit (.fork (.lit (.lit (.lit (.lit (.lit (.lit (.lit (.lit (.lit (.lit (.lit (.lit (.lit (.lit (.lit (.lit (.lit (.lit (.lit (.lit (.lit (.lit (.lit (.lit (.lit (.lit (.lit (.lit (.all))))))))))))))))))))))))))))) (.lit (.lit (.lit (.fork (.lit (.lit (.lit (.lit (.lit (.lit (.lit (.lit (.lit (.lit (.lit (.lit (.lit (.lit (.lit (.lit (.lit (.lit (.lit (.lit (.lit (.lit (.lit (.lit (.all))))))))))))))))))))))))) (.lit (.lit (.lit (.lit (.lit (.fork (.lit (.lit (.lit (.lit (.lit (.lit (.lit (.lit (.lit (.lit (.lit (.lit (.lit (.lit (.lit (.lit (.lit (.lit (.all))))))))))))))))))) (.lit (.lit (.lit (.lit (.lit (.fork (.lit (.lit (.lit (.lit (.lit (.lit (.lit (.lit (.lit (.lit (.lit (.lit (.all))))))))))))) (.lit (.lit (.lit (.lit (.lit (.lit (.lit (.lit (.lit (.lit (.lit (.fork (.all) (.fork (.lit (.lit (.lit (.lit (.lit (.lit (.lit (.lit (.lit (.lit (.lit (.lit (.all))))))))))))) (.lit (.lit (.lit (.fork (.lit (.lit (.lit (.lit (.lit (.lit (.lit (.lit (.all))))))))) (.lit (.lit (.lit (.fork (.lit (.lit (.lit (.lit (.all))))) (.lit (.lit (.lit (.fork (.all) (.all))))))))))))))))))))))))))))))))))))))))))))))))))
noncomputable def val0_t (h : Ho) : Tree Stop :=
   .node (decide ((↑h.ls.length : Int) > 65536))
 (.leaf (Stop.done (SV.bool false)))
 (.node (decide (h.wi < 1))
  (.leaf (Stop.done (SV.bool false)))
  (.node (decide (h.wi > 8))
   (.leaf (Stop.done (SV.bool false)))
   (.node (decide (h.ba < 1))
    (.leaf (Stop.done (SV.bool false)))
    (.node (decide (h.ba > IntKind.i64.wrap ((↑h.ls.length : Int) + 1)))
     (.leaf (Stop.done (SV.bool false)))
     (.node (decide (h.ne < h.ba))
      (.leaf (Stop.done (SV.bool false)))
      (.node (decide (h.ne > if IntKind.i64.wrap ((↑h.ls.length : Int) + 1) < IntKind.i64.wrap (h.ba + h.wi) then IntKind.i64.wrap ((↑h.ls.length : Int) + 1) else IntKind.i64.wrap (h.ba + h.wi)))
       (.leaf (Stop.done (SV.bool false)))
       (.node (decide (h.se < 0))
        (.leaf (Stop.done (SV.bool false)))
        (.node (decide (h.se > MC))
         (.leaf (Stop.done (SV.bool false)))
         (.node (decide (h.re < 0))
          (.leaf (Stop.done (SV.bool false)))
          (.node (decide (h.re > MC))
           (.leaf (Stop.done (SV.bool false)))
           (.leaf (Stop.at (loopOf Try.prog 60 0) 82 (slotsS 82 [(72, SV.list Ty.str h.ls), (73, I64 (↑h.ls.length : Int)), (74, I64 0)]) []))))))))))))
theorem val0 (h : Ho) : segR (Env.of Try.prog (sumOf [fSendable])) 1000 (fnOf Try.prog 60) .unit (keepS 82 [72,73,74]) (codeS Try.prog 60) val0_p (startS Try.prog 60 [h.sv]) [] = val0_t h := by kernel_rfl
def val1_p : Plan := .fork (.fork (.all) (.all)) (.all)
noncomputable def val1_t (l : List (List UInt8)) (k i : Int) : Tree Stop :=
   .node (decide (i < k))
 (.req (decide (0 ≤ i) && decide (i < (↑l.length : Int))) (.req (small (gt l i)) (.node (!(decide (((gt l i).length : Int) ≤ 96) && plainB (gt l i)))
    (.leaf (Stop.done (SV.bool false)))
    (.leaf (Stop.at (loopOf Try.prog 60 0) 82 (slotsS 82 [(72, SV.list Ty.str l), (73, I64 k), (74, I64 (IntKind.i64.wrap (i + 1)))]) [])))))
 (.leaf (Stop.done (SV.bool true)))
theorem val1 (l : List (List UInt8)) (k i : Int) : segR (Env.of Try.prog (sumOf [fSendable])) 1000 (fnOf Try.prog 60) .unit (keepS 82 [72,73,74]) (loopOf Try.prog 60 0) val1_p (slotsS 82 [(72, .list .str l), (73, I64 k), (74, I64 i)]) [] = val1_t l k i := by kernel_rfl
def same0_p : Plan := .fork (.lit (.lit (.lit (.lit (.lit (.lit (.lit (.lit (.lit (.lit (.lit (.lit (.lit (.lit (.lit (.lit (.lit (.lit (.lit (.lit (.lit (.lit (.lit (.lit (.lit (.lit (.lit (.lit (.lit (.lit (.all))))))))))))))))))))))))))))))) (.lit (.lit (.lit (.lit (.lit (.fork (.lit (.lit (.lit (.lit (.lit (.lit (.lit (.lit (.lit (.lit (.lit (.lit (.lit (.lit (.lit (.lit (.lit (.lit (.lit (.lit (.lit (.lit (.lit (.lit (.all))))))))))))))))))))))))) (.lit (.lit (.lit (.lit (.lit (.fork (.lit (.lit (.lit (.lit (.lit (.lit (.lit (.lit (.lit (.lit (.lit (.lit (.lit (.lit (.lit (.lit (.lit (.lit (.all))))))))))))))))))) (.lit (.lit (.lit (.lit (.lit (.fork (.lit (.lit (.lit (.lit (.lit (.lit (.lit (.lit (.lit (.lit (.lit (.lit (.all))))))))))))) (.lit (.lit (.lit (.lit (.lit (.fork (.lit (.lit (.lit (.lit (.lit (.lit (.all))))))) (.lit (.lit (.lit (.lit (.lit (.fork (.all) (.all)))))))))))))))))))))))))))))))
noncomputable def same0_t (g h : Ho) : Tree Stop :=
   .node ((↑g.ls.length : Int) != (↑h.ls.length : Int))
 (.leaf (Stop.done (SV.bool false)))
 (.node (g.ba != h.ba)
  (.leaf (Stop.done (SV.bool false)))
  (.node (g.ne != h.ne)
   (.leaf (Stop.done (SV.bool false)))
   (.node (g.wi != h.wi)
    (.leaf (Stop.done (SV.bool false)))
    (.node (g.re != h.re)
     (.leaf (Stop.done (SV.bool false)))
     (.node (g.se != h.se)
      (.leaf (Stop.done (SV.bool false)))
      (.leaf (Stop.at (loopOf Try.prog 27 0) 66 (slotsS 66 [(2, SV.ptr 0 0), (3, SV.ptr 1 0), (5, I64 0)]) [some (Box.cells [SV.list Ty.str g.ls, I64 g.ba, I64 g.ne, I64 g.wi, I64 g.re, I64 g.se]), some (Box.cells [SV.list Ty.str h.ls, I64 h.ba, I64 h.ne, I64 h.wi, I64 h.re, I64 h.se])])))))))
theorem same0 (g h : Ho) : segR (Env.of Try.prog (sumOf [])) 1000 (fnOf Try.prog 27) .unit (keepS 66 [2,3,5]) (codeS Try.prog 27) same0_p (startS Try.prog 27 [g.sv, h.sv]) [] = same0_t g h := by kernel_rfl
def same1_p : Plan := .fork (.fork (.all) (.all)) (.all)
noncomputable def same1_t (g h : Ho) (i : Int) : Tree Stop :=
   .node (decide (i < (↑g.ls.length : Int)))
 (.req (decide (0 ≤ i) && decide (i < (↑g.ls.length : Int))) (.req (decide (0 ≤ i) && decide (i < (↑h.ls.length : Int))) (.node (!(gt g.ls i) == (gt h.ls i))
    (.leaf (Stop.done (SV.bool false)))
    (.leaf (Stop.at (loopOf Try.prog 27 0) 66 (slotsS 66 [(2, SV.ptr 0 0), (3, SV.ptr 1 0), (5, I64 (IntKind.i64.wrap (i + 1)))]) [some (Box.cells [SV.list Ty.str g.ls, I64 g.ba, I64 g.ne, I64 g.wi, I64 g.re, I64 g.se]), some (Box.cells [SV.list Ty.str h.ls, I64 h.ba, I64 h.ne, I64 h.wi, I64 h.re, I64 h.se])])))))
 (.leaf (Stop.done (SV.bool true)))
theorem same1 (g h : Ho) (i : Int) : segR (Env.of Try.prog (sumOf [])) 1000 (fnOf Try.prog 27) .unit (keepS 66 [2,3,5]) (loopOf Try.prog 27 0) same1_p (slotsS 66 [(2, .ptr 0 0), (3, .ptr 1 0), (5, I64 i)]) [some (.cells g.cells), some (.cells h.cells)] = same1_t g h i := by kernel_rfl
end Go.Proofs.Ytibpodgdondakaa
set_option linter.unusedSimpArgs false
set_option linter.unusedVariables false
set_option maxRecDepth 100000
namespace Go.Proofs.Ytibpodgdondakaa
open Go.Sx

def hostP (h : Ho) : Prop := (h.ls.length : Int) ≤ 65536 ∧ 1 ≤ h.wi ∧ h.wi ≤ 8 ∧ 1 ≤ h.ba ∧ h.ba ≤ (h.ls.length : Int) + 1 ∧ h.ba ≤ h.ne ∧ h.ne ≤ h.ba + h.wi ∧ h.ne ≤ (h.ls.length : Int) + 1 ∧ 0 ≤ h.se ∧ h.se ≤ MC ∧ 0 ≤ h.re ∧ h.re ≤ MC
instance (h : Ho) : Decidable (hostP h) := by unfold hostP; infer_instance
def validB (h : Ho) : Bool := decide (hostP h) && sendsB h.ls

theorem val_loop (l : List (List UInt8)) (hs : smallsB l = true) (v : Bool) : ∀ i : Int, (0 ≤ i ∧ i ≤ l.length ∧ v = sendsB (l.drop i.toNat)) →
    RunsR Try.prog (fnOf Try.prog 60) (.bool v) (loopOf Try.prog 60 0) (slotsS 82 [(72, .list .str l), (73, I64 l.length), (74, I64 i)]) [] := by
  have hf : few2 l.length = true := by simp only [smallsB, Bool.and_eq_true] at hs; exact hs.2
  have hlen : (l.length : Int) ≤ 100000 := by simpa [few2] using hf
  refine runsR_of (hK (l := [fSendable]) ⟨o_sendable, trivial⟩) (n := 1000) (hint := .unit) rfl (fun i : Int => 0 ≤ i ∧ i ≤ l.length ∧ v = sendsB (l.drop i.toNat)) (fun i => ((l.length : Int) - i).toNat) (keepS 82 [72, 73, 74]) (fun _ => loopOf Try.prog 60 0) (fun i => slotsS 82 [(72, .list .str l), (73, I64 l.length), (74, I64 i)]) (fun _ => []) (fun _ => val1_p) fun i hi => ?_
  obtain ⟨h0, hl, hv⟩ := hi
  rw [val1]
  unfold val1_t
  simp only [Tree.holds, decide_eq_true_eq, decide_eq_false_iff_not, Bool.and_eq_true, Bool.not_eq_true', Bool.not_eq_false', Bool.and_eq_false_iff]
  refine ⟨fun h => ?_, fun h => ?_⟩
  · obtain ⟨g1, g2, g3⟩ := gt_drop h0 h
    rw [g1] at hv
    have hv : v = (sendB (gt l i) && sendsB (l.drop (i + 1).toNat)) := hv
    refine ⟨⟨h0, h⟩, smalls_get hs h0 h, fun c => ?_, fun c => ⟨slotsS_len _ _, .inl ?_⟩⟩
    · have : sendB (gt l i) = false := by simp only [sendB, Bool.and_eq_false_iff, decide_eq_false_iff_not]; exact c
      rw [hv, this]; rfl
    · rw [wrap64 (by omega) (by omega)]
      refine ⟨i + 1, ⟨by omega, by omega, ?_⟩, by omega, by trivial, rfl, by trivial⟩
      have : sendB (gt l i) = true := by simp only [sendB, Bool.and_eq_true, decide_eq_true_eq]; exact c
      rw [hv, this, Bool.true_and]
  · have hd : l.drop i.toNat = [] := List.drop_eq_nil_of_le (by omega)
    rw [hd] at hv
    rw [hv]; rfl

theorem s_val (h : Ho) (hs : smallsB h.ls = true) : SCall Try.prog 60 [h.sv] (.bool (validB h)) := by
  have hf : few2 h.ls.length = true := by simp only [smallsB, Bool.and_eq_true] at hs; exact hs.2
  have hlen : (h.ls.length : Int) ≤ 100000 := by simpa [few2] using hf
  refine scallR_loops rfl rfl (by kernel_rfl) (runsR_seg (hK (l := [fSendable]) ⟨o_sendable, trivial⟩) (n := 1000) (hint := .unit) (keep := keepS 82 [72, 73, 74]) (p := val0_p) (boxes := []) rfl ?_)
  have e := val0 h
  unfold startS codeS at e
  erw [e]
  unfold val0_t
  have bad : ¬ hostP h → SV.bool false = SV.bool (validB h) := fun hn => by unfold validB; rw [decide_eq_false hn]; rfl
  rw [wrap64 (x := (h.ls.length : Int) + 1) (by omega) (by omega)]
  simp only [Tree.holds, decide_eq_true_eq, decide_eq_false_iff_not]
  refine ⟨fun c => bad fun p => by unfold hostP at p; omega, fun c1 => ⟨fun c => bad fun p => by unfold hostP at p; omega, fun c2 => ⟨fun c => bad fun p => by unfold hostP at p; omega, fun c3 => ⟨fun c => bad fun p => by unfold hostP at p; omega, fun c4 =>
    ⟨fun c => bad fun p => by unfold hostP at p; omega, fun c5 => ⟨fun c => bad fun p => by unfold hostP at p; omega, fun c6 => ?_⟩⟩⟩⟩⟩⟩
  rw [wrap64 (x := h.ba + h.wi) (by omega) (by omega)]
  refine ⟨fun c => bad fun p => by unfold hostP at p; split at c <;> omega, fun c7 => ⟨fun c => bad fun p => by unfold hostP at p; omega, fun c8 => ⟨fun c => bad fun p => by unfold hostP at p; omega, fun c9 => ⟨fun c => bad fun p => by unfold hostP at p; omega, fun c10 =>
    ⟨fun c => bad fun p => by unfold hostP at p; omega, fun c11 => ⟨slotsS_len _ _, ?_⟩⟩⟩⟩⟩⟩
  have hp : hostP h := by
    unfold hostP
    split at c7 <;> omega
  refine val_loop h.ls hs _ 0 ⟨Int.le_refl 0, by omega, ?_⟩
  unfold validB; rw [decide_eq_true hp, Bool.true_and]; rfl

/-! ### The same -/

def sameB (g h : Ho) : Bool := decide (g.ls = h.ls) && (g.ba == h.ba && (g.ne == h.ne && (g.wi == h.wi && (g.re == h.re && g.se == h.se))))

theorem s_same_refl (h : Ho) (hf : few2 h.ls.length = true) : SCall Try.prog 27 [h.sv, h.sv] (.bool true) := by
  have hlen : (h.ls.length : Int) ≤ 100000 := by simpa [few2] using hf
  refine scallR_loops rfl rfl (by kernel_rfl) (runsR_seg (hK (l := []) trivial) (n := 1000) (hint := .unit) (keep := keepS 66 [2, 3, 5]) (p := same0_p) (boxes := []) rfl ?_)
  have e := same0 h h
  unfold startS codeS at e
  erw [e]
  unfold same0_t
  simp only [Tree.holds, bne_self_eq_false, Bool.false_eq_true, false_implies, true_implies, true_and]
  refine ⟨slotsS_len _ _, ?_⟩
  have loop : ∀ i : Int, (0 ≤ i ∧ i ≤ h.ls.length) → RunsR Try.prog (fnOf Try.prog 27) (.bool true) (loopOf Try.prog 27 0) (slotsS 66 [(2, .ptr 0 0), (3, .ptr 1 0), (5, I64 i)]) [some (.cells h.cells), some (.cells h.cells)] := by
    refine runsR_of (hK (l := []) trivial) (n := 1000) (hint := .unit) rfl (fun i : Int => 0 ≤ i ∧ i ≤ h.ls.length) (fun i => ((h.ls.length : Int) - i).toNat) (keepS 66 [2, 3, 5]) (fun _ => loopOf Try.prog 27 0) (fun i => slotsS 66 [(2, .ptr 0 0), (3, .ptr 1 0), (5, I64 i)]) (fun _ => [some (.cells h.cells), some (.cells h.cells)]) (fun _ => same1_p) fun i hi => ?_
    obtain ⟨h0, hl⟩ := hi
    rw [same1]
    unfold same1_t
    simp only [Tree.holds, decide_eq_true_eq, decide_eq_false_iff_not, Bool.and_eq_true, beq_self_eq_true, Bool.not_true, Bool.false_eq_true, false_implies, true_implies, true_and]
    refine ⟨fun h1 => ⟨⟨h0, h1⟩, ⟨h0, h1⟩, slotsS_len _ _, .inl ?_⟩, fun _ => trivial⟩
    rw [wrap64 (by omega) (by omega)]
    exact ⟨i + 1, ⟨by omega, by omega⟩, by omega, by trivial, rfl⟩
  exact loop 0 ⟨Int.le_refl 0, by omega⟩
def factHS (f : FuncId) (h : Ho → Tree SV) : Fact := ⟨f, fun args => match args with
  | [.agg [.list .str l, .int .i64 a, .int .i64 b, .int .i64 c, .int .i64 d, .int .i64 e]] => some (.req (smallsB l) (h ⟨l, a, b, c, d, e⟩))
  | _ => none⟩
theorem factHS_ok {P : Program} {f : FuncId} {h : Ho → Tree SV} (k : ∀ x : Ho, smallsB x.ls = true → (h x).says (SCall P f [x.sv])) : (factHS f h).ok P := fun args t ht => by
  simp only [factHS] at ht
  split at ht
  · injection ht with ht; subst ht; exact k ⟨_, _, _, _, _, _⟩
  · cases ht
def fVal : Fact := factHS 60 fun h => .leaf (.bool (validB h))
def fValR : Fact := factHS 61 fun h => .leaf (.bool (validB h))
theorem o_val : fVal.ok Try.prog := factHS_ok s_val
end Go.Proofs.Ytibpodgdondakaa
set_option linter.unusedSimpArgs false
set_option linter.unusedVariables false
set_option maxRecDepth 100000
namespace Go.Proofs.Ytibpodgdondakaa
open Go.Sx

/-! ### Canonical decimals -/

theorem dv_nonneg : ∀ (l : List Int), (∀ d ∈ l, 48 ≤ d ∧ d ≤ 57) → 0 ≤ dv l
  | [], _ => Int.le_refl 0
  | d :: r, h => by
    have := dv_nonneg r fun x hx => h x (List.mem_cons_of_mem _ hx)
    have := h d List.mem_cons_self
    simp only [dv]; omega
theorem dv_big : ∀ (l : List Int), l ≠ [] → (∀ d ∈ l, 48 ≤ d ∧ d ≤ 57) → l.getLast? ≠ some 48 → (10 : Int) ^ (l.length - 1) ≤ dv l
  | [], h, _, _ => absurd rfl h
  | [d], _, h, hl => by
    have := h d List.mem_cons_self
    have : d ≠ 48 := fun e => hl (by rw [e]; rfl)
    simp only [dv, List.length_singleton, Nat.sub_self, Int.pow_zero]; omega
  | d :: e :: r, _, h, hl => by
    have ih := dv_big (e :: r) (by simp) (fun x hx => h x (List.mem_cons_of_mem _ hx)) (by rw [List.getLast?_cons_cons] at hl; exact hl)
    have := h d List.mem_cons_self
    have hp : (10 : Int) ^ ((d :: e :: r).length - 1) = 10 ^ ((e :: r).length - 1) * 10 := by
      rw [← Int.pow_succ]; rfl
    rw [hp, dv]; omega
theorem rd_dv : ∀ (k : Nat) (l : List Int), l ≠ [] → (∀ d ∈ l, 48 ≤ d ∧ d ≤ 57) → l.length ≤ k → (l.length = 1 ∨ l.getLast? ≠ some 48) → rd k (dv l) = l
  | 0, l, h, _, hk, _ => absurd (List.eq_nil_of_length_eq_zero (by omega)) h
  | k + 1, [], h, _, _, _ => absurd rfl h
  | k + 1, [d], _, h, _, _ => by
    have := h d List.mem_cons_self
    have hdv : dv [d] = (d - 48) + 10 * 0 := rfl
    rw [hdv]
    unfold rd
    rw [if_neg (by omega), show 48 + (d - 48 + 10 * 0) % 10 = d by omega]
  | k + 1, d :: e :: r, _, h, hk, hl => by
    have hd := h d List.mem_cons_self
    have hl : (e :: r).getLast? ≠ some 48 := by
      rcases hl with hl | hl
      · simp at hl
      · rw [List.getLast?_cons_cons] at hl; exact hl
    have hr : ∀ d ∈ e :: r, 48 ≤ d ∧ d ≤ 57 := fun x hx => h x (List.mem_cons_of_mem _ hx)
    have hb := dv_big (e :: r) (by simp) hr hl
    have hp : (0 : Int) < 10 ^ ((e :: r).length - 1) := Int.pow_pos (by decide)
    have ih := rd_dv k (e :: r) (by simp) hr (by simp only [List.length_cons] at hk ⊢; omega) (.inr hl)
    have hdv : dv (d :: e :: r) = (d - 48) + 10 * dv (e :: r) := rfl
    generalize dv (e :: r) = v at *
    rw [hdv]
    unfold rd
    rw [show (d - 48 + 10 * v) / 10 = v by omega, show 48 + (d - 48 + 10 * v) % 10 = d by omega, if_pos (by omega), ih]

theorem p19 : (10 : Int) ^ 19 = 10000000000000000000 := by decide
/-- A number that is read has been printed so. -/
theorem numV_canon {M v : Int} {s : List UInt8} (hM : 0 ≤ M) (hM2 : M ≤ 4398046511104) (h : numV M s = some v) : s = fmt v ∧ 0 ≤ v ∧ v ≤ M := by
  rw [numV_eq hM] at h
  obtain ⟨hne, hl0, hd, hv, e⟩ := h
  have back : toB ((s.map fun b => (b.toNat : Int))) = s := by
    unfold toB
    rw [List.map_map]
    conv => rhs; rw [← List.map_id s]
    refine List.map_congr_left fun b _ => ?_
    simp
  have hl : ∀ d ∈ (s.map fun b => (b.toNat : Int)).reverse, 48 ≤ d ∧ d ≤ 57 := by
    intro d hd'
    obtain ⟨b, hb, rfl⟩ := List.mem_map.1 (List.mem_reverse.1 hd')
    simp only [digs, List.all_eq_true] at hd
    exact isDig_iff.1 (hd b hb)
  generalize hL : (s.map fun b => (b.toNat : Int)).reverse = l at *
  have hs : s = toB l.reverse := by rw [← hL, List.reverse_reverse, back]
  have hval : val s = dv l := by rw [hs, val_toB hl]
  have hlen : l.length = s.length := by rw [← hL]; simp
  have hne' : l ≠ [] := fun h => hne (List.eq_nil_of_length_eq_zero (by rw [← hlen, h]; rfl))
  have hlast : l.length = 1 ∨ l.getLast? ≠ some 48 := by
    by_cases h1 : 1 < s.length
    · right
      intro hc
      rw [← hL, List.getLast?_reverse, List.head?_map] at hc
      simp only [lead0, decide_eq_true h1, Bool.and_true, beq_eq_false_iff_ne] at hl0
      cases hh : s.head? with
      | none => rw [hh] at hc; cases hc
      | some b =>
        rw [hh] at hc hl0
        simp only [Option.map_some, Option.some.injEq] at hc
        apply hl0
        rw [Option.some.injEq]
        apply UInt8.toNat_inj.1
        have : ((48 : UInt8).toNat : Int) = 48 := rfl
        omega
    · left
      have : s.length ≠ 0 := fun h => hne (List.eq_nil_of_length_eq_zero h)
      omega
  have hn := dv_nonneg l hl
  have hk : l.length ≤ 20 := by
    by_cases hk : l.length ≤ 20
    · exact hk
    · exfalso
      have hb := dv_big l hne' hl (hlast.resolve_left (by omega))
      have hp : (10 : Int) ^ 19 ≤ 10 ^ (l.length - 1) := by
        have hq : (1 : Int) ≤ 10 ^ (l.length - 20) := by
          have : (0 : Int) < 10 ^ (l.length - 20) := Int.pow_pos (by decide)
          omega
        have e : (10 : Int) ^ (l.length - 1) = 10 ^ 19 * 10 ^ (l.length - 20) := by rw [← Int.pow_add]; congr 1; omega
        rw [e, p19]; omega
      rw [p19] at hp
      omega
  have hr := rd_dv 20 l hne' hl hk hlast
  refine ⟨?_, by omega, by omega⟩
  rw [fmt_pos (by omega) (by omega), e, hval, hr]
  exact hs

theorem ix_join {c : UInt8} : ∀ {s : List UInt8}, 0 ≤ ix s c → s = s.take (ix s c).toNat ++ c :: s.drop (ix s c + 1).toNat
  | [], h => by have : ix [] c = -1 := rfl
                omega
  | a :: s, h => by
    rw [ix_cons] at h ⊢
    by_cases e : a = c
    · subst e; rw [if_pos rfl]; rfl
    · rw [if_neg e] at h ⊢
      by_cases hx : ix s c = -1
      · rw [if_pos hx] at h; omega
      · rw [if_neg hx] at h ⊢
        have hg := ix_ge s c
        have ih := ix_join (c := c) (s := s) (by omega)
        rw [show (ix s c + 1).toNat = (ix s c).toNat + 1 by omega, show (ix s c + 1 + 1).toNat = (ix s c + 1).toNat + 1 by omega, List.take_succ_cons, List.drop_succ_cons, List.cons_append, ← ih]
theorem cut_join {c : UInt8} {s : List UInt8} (h : cutC s c = true) : s = cutA s c ++ c :: cutB s c := by
  obtain ⟨a, b, d⟩ := cut_at h
  rw [a, b]; exact ix_join d

/-! ### Answers -/

def aE (s : List UInt8) : Bool := cO s && (cN s == xr (hd s) && (cutC (hd s) 32 && (cutA (hd s) 32 == wOk || cutA (hd s) 32 == wRe)))
def aB (s : List UInt8) : Bool := aE s && numO (MC + 1) (cutB (hd s) 32)
def aW (s : List UInt8) : List UInt8 := if aE s then cutA (hd s) 32 else []
def aN (s : List UInt8) : Int := if aE s then numN (MC + 1) (cutB (hd s) 32) else 0
def rplB (w s : List UInt8) : Bool := aB s && aW s == w
def rplN (w s : List UInt8) : Int := if rplB w s then aN s else 0

theorem MC_eq : MC = 1099511627776 := rfl
theorem rpl_to {w s : List UInt8} (h : rplB w s = true) : s = repl w (aN s) ∧ 0 ≤ aN s ∧ aN s ≤ MC + 1 ∧ (w = wOk ∨ w = wRe) := by
  have hMC := MC_eq
  simp only [rplB, aB, Bool.and_eq_true, beq_iff_eq] at h
  obtain ⟨⟨hE, hO⟩, hW⟩ := h
  have hN : aN s = numN (MC + 1) (cutB (hd s) 32) := by unfold aN; rw [hE, if_pos rfl]
  have hw : cutA (hd s) 32 = w := by unfold aW at hW; rwa [hE, if_pos rfl] at hW
  rw [hN]
  simp only [aE, Bool.and_eq_true, Bool.or_eq_true, beq_iff_eq] at hE
  obtain ⟨hcO, hx, hc, hww⟩ := hE
  simp only [cO, Bool.and_eq_true] at hcO
  obtain ⟨h42, h255⟩ := hcO
  have hhd : hd s = cutA s 42 := by unfold hd; rw [h42, if_pos rfl]
  have num : ∀ {M : Int} {t : List UInt8}, numO M t = true → numV M t = some (numN M t) := fun {M t} h => by
    unfold numO at h; unfold numN
    cases hv : numV M t with
    | none => rw [hv] at h; cases h
    | some v => rfl
  obtain ⟨c1, c2, c3⟩ := numV_canon (by omega) (by omega) (num hO)
  obtain ⟨d1, d2, d3⟩ := numV_canon (by omega) (by omega) (num h255)
  have hcN : cN s = numN 255 (cutB s 42) := by unfold cN; rw [h42, if_pos rfl]
  refine ⟨?_, c2, c3, by rw [← hw]; exact hww⟩
  have j1 := cut_join h42
  have j2 := cut_join hc
  rw [hw] at j2
  generalize numN (MC + 1) (cutB (hd s) 32) = n at *
  rw [c1] at j2
  conv => lhs; rw [j1]
  rw [← hhd, d1, ← hcN, hx]
  unfold repl
  rw [show w ++ [32] ++ fmt n = hd s by rw [j2]; simp]
  simp
theorem rpl_of {w : List UInt8} {n : Int} (hw : w = wOk ∨ w = wRe) (h0 : 0 ≤ n) (h1 : n ≤ MC + 1) : rplB w (repl w n) = true ∧ aN (repl w n) = n ∧ ix (repl w n) 42 = w.length + 1 + (fmt n).length := by
  have hMC := MC_eq
  have fb := fmt_bytes (n := n) (by omega) (by omega)
  have b42 : ((42 : UInt8).toNat : Int) = 42 := rfl
  have w42 : ∀ a ∈ w, a ≠ 42 ∧ a ≠ 32 := by rcases hw with h | h <;> subst h <;> decide
  have no42 : ∀ a ∈ w ++ [32] ++ fmt n, a ≠ 42 := by
    intro a ha e
    subst e
    simp only [List.mem_append, List.mem_singleton] at ha
    rcases ha with (ha | ha) | ha
    · exact (w42 _ ha).1 rfl
    · cases ha
    · have := fb _ ha; omega
  have no32 : ∀ a ∈ w, a ≠ 32 := fun a ha => (w42 a ha).2
  have hlen : ((w ++ [32] ++ fmt n).length : Int) = w.length + 1 + (fmt n).length := by simp; omega
  unfold repl
  generalize hF : w ++ [32] ++ fmt n = F at no42 hlen ⊢
  have e1 : F ++ [42] ++ fmt (xr F) = F ++ 42 :: fmt (xr F) := by simp
  have e2 : F = w ++ 32 :: fmt n := by rw [← hF]; simp
  rw [e1]
  obtain ⟨c1, c2, c3⟩ := cut_first (r := fmt (xr F)) no42
  have hhd : hd (F ++ 42 :: fmt (xr F)) = F := by unfold hd; rw [c1, if_pos rfl, c2]
  obtain ⟨d1, d2, d3⟩ := cut_first (r := fmt n) no32
  rw [← e2] at d1 d2 d3
  have xrr := xr_range F
  have nx : numV 255 (fmt (xr F)) = some (xr F) := numV_fmt xrr.1 xrr.2 (by omega)
  have nn : numV (MC + 1) (fmt n) = some n := numV_fmt h0 h1 (by omega)
  have hE : aE (F ++ 42 :: fmt (xr F)) = true := by
    unfold aE cO cN numO numN
    rw [hhd, c1, c3, nx, d1, d2]
    simp only [Option.isSome_some, Option.getD_some, if_true, beq_self_eq_true, Bool.true_and, Bool.or_eq_true, beq_iff_eq]
    exact hw
  have hN : aN (F ++ 42 :: fmt (xr F)) = n := by unfold aN numN; rw [hE, if_pos rfl, hhd, d3, nn]; rfl
  refine ⟨?_, hN, by rw [ix_first no42, hlen]⟩
  unfold rplB aB aW numO
  rw [hE, hhd, d2, d3, nn, if_pos rfl]
  simp
end Go.Proofs.Ytibpodgdondakaa
set_option linter.unusedSimpArgs false
set_option linter.unusedVariables false
set_option maxRecDepth 100000
namespace Go.Proofs.Ytibpodgdondakaa
open Go.Sx

def moreV (n : Int) : Int := if n < MC then n + 1 else n
def agaV (h : Ho) (k : Int) : Ho × Int := if validB h = false ∨ k < 1 ∨ k > (h.ls.length : Int) + 1 then (zeroH, 1) else ({ h with ba := k, ne := k }, 0)
def agaS (r : Ho × Int) : SV := .tuple [r.1.sv, I64 r.2]
def sndB (h : Ho) : Bool := validB h && !(h.ne == h.ba + h.wi) && !decide (h.ne > h.ls.length)
def sndV (h : Ho) : Ho := if sndB h then { h with ne := h.ne + 1, se := moreV h.se } else h
def sndT (h : Ho) : List UInt8 := if sndB h then (frame h.ne (gt h.ls (h.ne - 1))).1 else []
def ansV (h : Ho) (b : Bool) (t : List UInt8) : Ho :=
  if validB h = false ∨ b = false ∨ aB t = false then h
  else if aW t = wOk then (if aN t ≤ h.ls.length then { h with ba := if h.ba < aN t + 1 then aN t + 1 else h.ba, ne := if h.ne < aN t + 1 then aN t + 1 else h.ne } else h)
  else if 1 ≤ aN t ∧ aN t < h.ne then { h with ba := aN t, ne := aN t, re := moreV h.re } else h

/-- Facts on a host and a number. -/
def fAns : Fact := factL 59 fun s => .leaf (.tuple [.str (aW s), I64 (aN s), .bool (aB s)])
def fRpl : Fact := ⟨63, fun args => match args with
  | [.str s, .str w] => some (.req (small s && (w == wOk || w == wRe)) (.leaf (.tuple [I64 (rplN w s), .bool (rplB w s)])))
  | _ => none⟩
def fMore : Fact := ⟨62, fun args => match args with
  | [.int .i64 n] => some (.req (decide (n ≤ 4398046511104) && decide (-4398046511104 ≤ n)) (.leaf (I64 (moreV n))))
  | _ => none⟩
def fClo : Fact := factH 58 fun h => .leaf (.agg [.list .str h.ls, I64 h.ba, I64 h.ne, I64 h.wi, I64 h.re, I64 h.se])

theorem few_smalls {l : List (List UInt8)} (h : smallsB l = true) : few2 l.length = true ∧ (l.length : Int) ≤ 100000 := by
  have hf : few2 l.length = true := by simp only [smallsB, Bool.and_eq_true] at h; exact h.2
  exact ⟨hf, by simpa [few2] using hf⟩
theorem valid_to {h : Ho} (hv : validB h = true) : hostP h ∧ sendsB h.ls = true := by
  unfold validB at hv
  rw [Bool.and_eq_true, decide_eq_true_eq] at hv
  exact hv
theorem sends_get {l : List (List UInt8)} (h : sendsB l = true) {i : Int} (h0 : 0 ≤ i) (hi : i < l.length) : plainB (gt l i) = true ∧ ((gt l i).length : Int) ≤ 96 := by
  simp only [sendsB, List.all_eq_true] at h
  have := h _ (gt_drop h0 hi).2.1
  simp only [sendB, Bool.and_eq_true, decide_eq_true_eq] at this
  exact ⟨this.2, this.1⟩
theorem frame_of {n : Int} {t : List UInt8} (h0 : 1 ≤ n) (h1 : n ≤ MC) (hp : plainB t = true) (hl : (t.length : Int) ≤ 96) : (frame n t).2 = 0 := by
  unfold frame
  rw [if_neg (by rw [hp]; simp; omega), if_neg (by omega)]
theorem ans_no {h : Ho} {b : Bool} {t : List UInt8} (hc : validB h = false ∨ b = false ∨ aB t = false) : ansV h b t = h := by unfold ansV; rw [if_pos hc]
theorem aW_or {t : List UInt8} (h : aB t = true) : (aW t = wOk ∨ aW t = wRe) ∧ 0 ≤ aN t ∧ aN t ≤ MC + 1 := by
  have hr : rplB (aW t) t = true := by unfold rplB; rw [h]; simp
  obtain ⟨_, a, b, c⟩ := rpl_to hr
  exact ⟨c, a, b⟩
theorem snd_no {h : Ho} (hc : sndB h = false) : sndV h = h ∧ sndT h = [] := by unfold sndV sndT; rw [hc]; exact ⟨rfl, rfl⟩
theorem snd_yes {h : Ho} (hc : sndB h = true) : sndV h = { h with ne := h.ne + 1, se := moreV h.se } ∧ sndT h = (frame h.ne (gt h.ls (h.ne - 1))).1 := by unfold sndV sndT; rw [hc]; exact ⟨rfl, rfl⟩
theorem parse_fmt {n : Int} (h0 : 0 ≤ n) (h1 : n ≤ MC + 1) : parseV (fmt n) = (n, 0) := by
  have := MC_eq
  exact ((parse_num (M := MC + 1) (by omega) (by omega) (fmt n) n).1 (numV_fmt h0 h1 (by omega))).1
theorem fmt_ne (n : Int) : 1 ≤ (fmt n).length := by
  unfold fmt backs toB rd
  simp; omega
end Go.Proofs.Ytibpodgdondakaa
set_option linter.unusedSimpArgs false
set_option linter.unusedVariables false
set_option maxRecDepth 100000
namespace Go.Proofs.Ytibpodgdondakaa
open Go.Sx
theorem s_valR (h : Ho)(hs : smallsB h.ls = true) : SCall Try.prog 61 [h.sv] (.bool (validB h)) :=
  scall_v mix [fStaR] ⟨o_staR, trivial⟩ 1000 (.fork (.lit (.lit (.lit (.lit (.lit (.lit (.lit (.lit (.lit (.lit (.lit (.lit (.lit (.lit (.lit (.lit (.lit (.lit (.lit (.lit (.lit (.lit (.lit (.lit (.lit (.lit (.lit (.lit (.lit (.all)))))))))))))))))))))))))))))) (.lit (.lit (.lit (.fork (.lit (.lit (.lit (.lit (.lit (.lit (.lit (.lit (.lit (.lit (.lit (.lit (.lit (.lit (.lit (.lit (.lit (.lit (.lit (.lit (.lit (.lit (.lit (.lit (.lit (.all)))))))))))))))))))))))))) (.lit (.lit (.lit (.lit (.fork (.lit (.lit (.lit (.lit (.lit (.lit (.lit (.lit (.lit (.lit (.lit (.lit (.lit (.lit (.lit (.lit (.lit (.lit (.lit (.lit (.all))))))))))))))))))))) (.lit (.lit (.lit (.lit (.lit (.fork (.lit (.lit (.lit (.lit (.lit (.lit (.lit (.lit (.lit (.lit (.lit (.lit (.lit (.lit (.all))))))))))))))) (.lit (.lit (.lit (.lit (.lit (.lit (.lit (.lit (.fork (.lit (.lit (.lit (.lit (.lit (.all)))))) (.lit (.lit (.lit (.lit (.fork (.all) (.fork (.lit (.lit (.lit (.fork (.lit (.lit (.lit (.fork (.lit (.lit (.lit (.all)))) (.lit (.lit (.lit (.all)))))))) (.lit (.lit (.lit (.lit (.lit (.lit (.lit (.all)))))))))))) (.lit (.lit (.lit (.lit (.lit (.lit (.lit (.lit (.lit (.lit (.lit (.all)))))))))))))))))))))))))))))))))))))))))))
   (t := .req (smallsB h.ls) (.node ((staV h.ls h.wi).snd != 0)
  (.leaf (SV.bool false))
  (.node (decide (h.ba < 1))
   (.leaf (SV.bool false))
   (.node (decide (h.ba > IntKind.i64.wrap (((staV h.ls h.wi).fst.ls.length : Int) + 1)))
    (.leaf (SV.bool false))
    (.node (decide (h.ne < h.ba))
     (.leaf (SV.bool false))
     (.node (decide (h.ne > IntKind.i64.wrap (h.ba + h.wi)))
      (.leaf (SV.bool false))
      (.node (decide (h.ne > IntKind.i64.wrap (((staV h.ls h.wi).fst.ls.length : Int) + 1)))
       (.leaf (SV.bool false))
       (.node (decide (h.se ≥ 0))
        (.node (decide (h.se ≤ MC))
         (.node (decide (h.re ≥ 0))
          (.leaf (SV.bool (decide (h.re ≤ MC))))
          (.leaf (SV.bool false)))
         (.leaf (SV.bool false)))
        (.leaf (SV.bool false))))))))))
   (by kernel_rfl) (by 
    have hf : few2 h.ls.length = true := by simp only [smallsB, Bool.and_eq_true] at hs; exact hs.2
    have hlen : (h.ls.length : Int) ≤ 100000 := by simpa [few2] using hf
    have hMC := MC_eq
    have bad : ¬ (hostP h ∧ sendsB h.ls = true) → SV.bool false = SV.bool (validB h) := fun hn => by
      have : validB h = false := by rw [← Bool.not_eq_true]; unfold validB; rw [Bool.and_eq_true, decide_eq_true_eq]; exact hn
      rw [this]
    have good : hostP h → sendsB h.ls = true → SV.bool true = SV.bool (validB h) := fun a b => by
      unfold validB; rw [decide_eq_true a, b]; rfl
    refine ⟨hs, ?_⟩
    by_cases hb : sendsB h.ls = false ∨ h.wi < 1 ∨ h.wi > 8
    · have e : staV h.ls h.wi = (zeroH, 1) := by unfold staV; rw [if_pos hb]
      rw [e]
      refine ⟨fun _ => bad fun ⟨p, q⟩ => ?_, fun c => absurd c (by decide)⟩
      unfold hostP at p
      rw [q] at hb
      rcases hb with hb | hb
      · cases hb
      · omega
    · by_cases hl : (h.ls.length : Int) > 65536
      · have e : staV h.ls h.wi = (zeroH, 2) := by unfold staV; rw [if_neg hb, if_pos hl]
        rw [e]
        refine ⟨fun _ => bad fun ⟨p, q⟩ => ?_, fun c => absurd c (by decide)⟩
        unfold hostP at p; omega
      · have e : staV h.ls h.wi = (⟨h.ls, 1, 1, h.wi, 0, 0⟩, 0) := by unfold staV; rw [if_neg hb, if_neg hl]
        rw [e]
        have hw : 1 ≤ h.wi ∧ h.wi ≤ 8 := by omega
        have hq : sendsB h.ls = true := by
          cases hq : sendsB h.ls
          · exact absurd (.inl hq) hb
          · rfl
        dsimp only
        rw [wrap64 (x := (h.ls.length : Int) + 1) (by omega) (by omega)]
        simp only [Tree.holds, decide_eq_true_eq, decide_eq_false_iff_not]
        refine ⟨fun c => absurd c (by decide), fun _ => ⟨fun c => bad fun ⟨p, _⟩ => by unfold hostP at p; omega, fun c1 => ⟨fun c => bad fun ⟨p, _⟩ => by unfold hostP at p; omega, fun c2 => ⟨fun c => bad fun ⟨p, _⟩ => by unfold hostP at p; omega, fun c3 => ?_⟩⟩⟩⟩
        rw [wrap64 (x := h.ba + h.wi) (by omega) (by omega)]
        refine ⟨fun c => bad fun ⟨p, _⟩ => by unfold hostP at p; omega, fun c4 => ⟨fun c => bad fun ⟨p, _⟩ => by unfold hostP at p; omega, fun c5 => ⟨fun c6 => ⟨fun c7 => ⟨fun c8 => ?_, fun c => bad fun ⟨p, _⟩ => by unfold hostP at p; omega⟩, fun c => bad fun ⟨p, _⟩ => by unfold hostP at p; omega⟩, fun c => bad fun ⟨p, _⟩ => by unfold hostP at p; omega⟩⟩⟩
        by_cases c9 : h.re ≤ MC
        · rw [decide_eq_true c9]; exact good (by unfold hostP; omega) hq
        · rw [decide_eq_false c9]; exact bad fun ⟨p, _⟩ => by unfold hostP at p; omega) (by kernel_rfl) (by kernel_rfl)
theorem s_more (n : Int)(hn : n ≤ 4398046511104 ∧ -4398046511104 ≤ n) : SCall Try.prog 62 [I64 n] (I64 (moreV n)) :=
  scall_v mix [] trivial 1000 (.fork (.all) (.all))
   (t := .node (decide (n < MC))
 (.leaf (I64 (IntKind.i64.wrap (n + 1))))
 (.leaf (I64 n)))
   (by kernel_rfl) (by 
    rw [wrap64 (by omega) (by omega)]
    simp only [Tree.holds, decide_eq_true_eq, decide_eq_false_iff_not]
    refine ⟨fun c => ?_, fun c => ?_⟩
    · unfold moreV; rw [if_pos c]
    · unfold moreV; rw [if_neg c]) (by kernel_rfl) (by kernel_rfl)
theorem s_clone (h : Ho)(hf : few2 h.ls.length = true) : SCall Try.prog 58 [h.sv] (h.sv) :=
  scall_v mix [fCloS] ⟨o_cloS, trivial⟩ 1000 (.all)
   (t := .req (few2 h.ls.length) (.leaf (SV.agg [SV.list Ty.str h.ls, I64 h.ba, I64 h.ne, I64 h.wi, I64 h.re, I64 h.se])))
   (by kernel_rfl) (by 
    exact ⟨hf, rfl⟩) (by kernel_rfl) (by kernel_rfl)
theorem o_clo : fClo.ok Try.prog := factH_ok s_clone
theorem o_valR : fValR.ok Try.prog := factHS_ok s_valR
theorem o_more : fMore.ok Try.prog := fun args t ht => by
  simp only [fMore] at ht
  split at ht
  · injection ht with ht; subst ht
    intro h
    simp only [Bool.and_eq_true, decide_eq_true_eq] at h
    exact s_more _ h
  · cases ht
def aga0_p : Plan := .fork (.lit (.lit (.lit (.lit (.lit (.lit (.lit (.lit (.lit (.lit (.all))))))))))) (.lit (.lit (.fork (.lit (.lit (.lit (.lit (.lit (.lit (.lit (.all)))))))) (.lit (.lit (.lit (.lit (.lit (.lit (.fork (.all) (.all)))))))))))
noncomputable def aga0_t (h : Ho) (k : Int) : Tree Stop :=
   .req (smallsB h.ls) (.node (!validB h)
  (.leaf (Stop.done (SV.tuple [SV.agg [SV.list Ty.str [], I64 0, I64 0, I64 0, I64 0, I64 0], I64 1])))
  (.node (decide (k < 1))
   (.leaf (Stop.done (SV.tuple [SV.agg [SV.list Ty.str [], I64 0, I64 0, I64 0, I64 0, I64 0], I64 1])))
   (.node (decide (k > IntKind.i64.wrap ((↑h.ls.length : Int) + 1)))
    (.leaf (Stop.done (SV.tuple [SV.agg [SV.list Ty.str [], I64 0, I64 0, I64 0, I64 0, I64 0], I64 1])))
    (.req (few2 h.ls.length) (.leaf (Stop.done (SV.tuple [SV.agg [SV.list Ty.str h.ls, I64 k, I64 k, I64 h.wi, I64 h.re, I64 h.se], I64 0])))))))
theorem aga0 (h : Ho) (k : Int) : segR (Env.of Try.prog (sumOf [fVal, fClo])) 1000 (fnOf Try.prog 34) .str (keepS 26 []) (codeS Try.prog 34) aga0_p (startS Try.prog 34 [h.sv, I64 k]) [] = aga0_t h k := by kernel_rfl
def agaR0_p : Plan := .fork (.lit (.lit (.lit (.lit (.lit (.lit (.lit (.lit (.lit (.lit (.all))))))))))) (.lit (.lit (.fork (.lit (.lit (.lit (.lit (.lit (.lit (.lit (.all)))))))) (.lit (.lit (.lit (.lit (.lit (.lit (.fork (.all) (.all)))))))))))
noncomputable def agaR0_t (h : Ho) (k : Int) : Tree Stop :=
   .req (smallsB h.ls) (.node (!validB h)
  (.leaf (Stop.done (SV.tuple [SV.agg [SV.list Ty.str [], I64 0, I64 0, I64 0, I64 0, I64 0], I64 1])))
  (.node (decide (k < 1))
   (.leaf (Stop.done (SV.tuple [SV.agg [SV.list Ty.str [], I64 0, I64 0, I64 0, I64 0, I64 0], I64 1])))
   (.node (decide (k > IntKind.i64.wrap ((↑h.ls.length : Int) + 1)))
    (.leaf (Stop.done (SV.tuple [SV.agg [SV.list Ty.str [], I64 0, I64 0, I64 0, I64 0, I64 0], I64 1])))
    (.leaf (Stop.done (SV.tuple [SV.agg [SV.list Ty.str h.ls, I64 k, I64 k, I64 h.wi, I64 h.re, I64 h.se], I64 0]))))))
theorem agaR0 (h : Ho) (k : Int) : segR (Env.of Try.prog (sumOf [fValR])) 1000 (fnOf Try.prog 35) .str (keepS 26 []) (codeS Try.prog 35) agaR0_p (startS Try.prog 35 [h.sv, I64 k]) [] = agaR0_t h k := by kernel_rfl
theorem s_snd (h : Ho)(hs : smallsB h.ls = true) : SCall Try.prog 31 [h.sv] (.tuple [(sndV h).sv, .agg [.bool false, .str (sndT h), .bool false], .bool (sndB h)]) :=
  scall_v mix [fVal, fClo, fFrame] ⟨o_val, o_clo, o_frame, trivial⟩ 1000 (.fork (.lit (.lit (.lit (.lit (.lit (.lit (.lit (.lit (.lit (.lit (.lit (.lit (.lit (.lit (.lit (.lit (.all))))))))))))))))) (.lit (.lit (.lit (.lit (.lit (.lit (.lit (.lit (.fork (.lit (.lit (.lit (.lit (.lit (.lit (.lit (.all)))))))) (.lit (.lit (.lit (.lit (.lit (.lit (.fork (.all) (.fork (.all) (.all)))))))))))))))))))
   (t := .req (few2 h.ls.length) (.req (smallsB h.ls) (.node (!validB h)
   (.leaf (SV.tuple [SV.agg [SV.list Ty.str h.ls, I64 h.ba, I64 h.ne, I64 h.wi, I64 h.re, I64 h.se], SV.agg [SV.bool false, SV.str [], SV.bool false], SV.bool false]))
   (.node (h.ne == IntKind.i64.wrap (h.ba + h.wi))
    (.leaf (SV.tuple [SV.agg [SV.list Ty.str h.ls, I64 h.ba, I64 h.ne, I64 h.wi, I64 h.re, I64 h.se], SV.agg [SV.bool false, SV.str [], SV.bool false], SV.bool false]))
    (.node (decide (h.ne > (↑h.ls.length : Int)))
     (.leaf (SV.tuple [SV.agg [SV.list Ty.str h.ls, I64 h.ba, I64 h.ne, I64 h.wi, I64 h.re, I64 h.se], SV.agg [SV.bool false, SV.str [], SV.bool false], SV.bool false]))
     (.req (decide (0 ≤ IntKind.i64.wrap (h.ne - 1)) && decide (IntKind.i64.wrap (h.ne - 1) < (↑h.ls.length : Int))) (.req (small (h.ls.getD (IntKind.i64.wrap (h.ne - 1)).toNat Ty.str.dflt)) (.node ((frame h.ne (h.ls.getD (IntKind.i64.wrap (h.ne - 1)).toNat Ty.str.dflt)).snd != 0)
        (.leaf (SV.tuple [SV.agg [SV.list Ty.str h.ls, I64 h.ba, I64 h.ne, I64 h.wi, I64 h.re, I64 h.se], SV.agg [SV.bool false, SV.str [], SV.bool false], SV.bool false]))
        (.leaf (SV.tuple [SV.agg [SV.list Ty.str h.ls, I64 h.ba, I64 (IntKind.i64.wrap (h.ne + 1)), I64 h.wi, I64 h.re, I64 (if MC < IntKind.i64.wrap (h.se + 1) then MC else IntKind.i64.wrap (h.se + 1))], SV.agg [SV.bool false, SV.str (frame h.ne (h.ls.getD (IntKind.i64.wrap (h.ne - 1)).toNat Ty.str.dflt)).fst, SV.bool false], SV.bool true]))))))))))
   (by kernel_rfl) (by 
    obtain ⟨hf, hlen⟩ := few_smalls hs
    have hMC := MC_eq
    simp only [Tree.holds, decide_eq_true_eq, decide_eq_false_iff_not, Bool.not_eq_true', Bool.not_eq_false', Bool.and_eq_true, beq_iff_eq, beq_eq_false_iff_ne, bne_iff_ne, bne_eq_false_iff_eq]
    have no : sndB h = false → SV.tuple [SV.agg [SV.list Ty.str h.ls, I64 h.ba, I64 h.ne, I64 h.wi, I64 h.re, I64 h.se], SV.agg [SV.bool false, SV.str [], SV.bool false], SV.bool false] = .tuple [(sndV h).sv, .agg [.bool false, .str (sndT h), .bool false], .bool (sndB h)] := fun c => by
      rw [(snd_no c).1, (snd_no c).2, c]; rfl
    refine ⟨hf, hs, fun c => no (by unfold sndB; rw [c]; rfl), fun c => ?_⟩
    obtain ⟨hp, hsn⟩ := valid_to c
    unfold hostP at hp
    rw [wrap64 (x := h.ba + h.wi) (by omega) (by omega)]
    refine ⟨fun d => no (by unfold sndB; rw [c, beq_iff_eq.2 d]; rfl), fun d => ⟨fun e => no (by unfold sndB; rw [c, decide_eq_true e]; simp), fun e => ?_⟩⟩
    rw [wrap64 (x := h.ne - 1) (by omega) (by omega), wrap64 (x := h.ne + 1) (by omega) (by omega), wrap64 (x := h.se + 1) (by omega) (by omega)]
    obtain ⟨g1, g2⟩ := sends_get hsn (i := h.ne - 1) (by omega) (by omega)
    have hfr := frame_of (n := h.ne) (by omega) (by omega) g1 g2
    have yes : sndB h = true := by unfold sndB; rw [c, beq_eq_false_iff_ne.2 d, decide_eq_false e]; rfl
    obtain ⟨y1, y2⟩ := snd_yes yes
    refine ⟨by omega, smalls_get hs (by omega) (by omega), ?_⟩
    rw [y1, y2, yes]
    have hm : (if MC < h.se + 1 then MC else h.se + 1) = moreV h.se := by unfold moreV; split <;> split <;> omega
    rw [hm]
    exact ⟨fun c => absurd hfr c, fun _ => rfl⟩) (by kernel_rfl) (by kernel_rfl)
theorem s_sndR (h : Ho)(hs : smallsB h.ls = true) : SCall Try.prog 32 [h.sv] (.tuple [(sndV h).sv, .agg [.bool false, .str (sndT h), .bool false], .bool (sndB h)]) :=
  scall_v mix [fValR, fFrameR, fMore] ⟨o_valR, o_frameR, o_more, trivial⟩ 1000 (.fork (.lit (.lit (.lit (.lit (.lit (.lit (.lit (.lit (.lit (.lit (.lit (.lit (.lit (.lit (.lit (.lit (.all))))))))))))))))) (.lit (.lit (.lit (.lit (.lit (.lit (.lit (.lit (.fork (.lit (.lit (.lit (.lit (.lit (.lit (.lit (.all)))))))) (.lit (.lit (.lit (.lit (.lit (.lit (.fork (.all) (.all))))))))))))))))))
   (t := .req (smallsB h.ls) (.node (!validB h)
  (.leaf (SV.tuple [SV.agg [SV.list Ty.str h.ls, I64 h.ba, I64 h.ne, I64 h.wi, I64 h.re, I64 h.se], SV.agg [SV.bool false, SV.str [], SV.bool false], SV.bool false]))
  (.node (h.ne == IntKind.i64.wrap (h.ba + h.wi))
   (.leaf (SV.tuple [SV.agg [SV.list Ty.str h.ls, I64 h.ba, I64 h.ne, I64 h.wi, I64 h.re, I64 h.se], SV.agg [SV.bool false, SV.str [], SV.bool false], SV.bool false]))
   (.node (decide (h.ne > (↑h.ls.length : Int)))
    (.leaf (SV.tuple [SV.agg [SV.list Ty.str h.ls, I64 h.ba, I64 h.ne, I64 h.wi, I64 h.re, I64 h.se], SV.agg [SV.bool false, SV.str [], SV.bool false], SV.bool false]))
    (.req (decide (0 ≤ IntKind.i64.wrap (h.ne - 1)) && decide (IntKind.i64.wrap (h.ne - 1) < (↑h.ls.length : Int))) (.req (small (h.ls.getD (IntKind.i64.wrap (h.ne - 1)).toNat Ty.str.dflt)) (.req (decide (h.se ≤ 4398046511104) && decide (-4398046511104 ≤ h.se)) (.leaf (SV.tuple [SV.agg [SV.list Ty.str h.ls, I64 h.ba, I64 (IntKind.i64.wrap (h.ne + 1)), I64 h.wi, I64 h.re, I64 (moreV h.se)], SV.agg [SV.bool false, SV.str (frame h.ne (h.ls.getD (IntKind.i64.wrap (h.ne - 1)).toNat Ty.str.dflt)).fst, SV.bool false], SV.bool true])))))))))
   (by kernel_rfl) (by 
    obtain ⟨hf, hlen⟩ := few_smalls hs
    have hMC := MC_eq
    simp only [Tree.holds, decide_eq_true_eq, decide_eq_false_iff_not, Bool.not_eq_true', Bool.not_eq_false', Bool.and_eq_true, beq_iff_eq, beq_eq_false_iff_ne, bne_iff_ne, bne_eq_false_iff_eq]
    have no : sndB h = false → SV.tuple [SV.agg [SV.list Ty.str h.ls, I64 h.ba, I64 h.ne, I64 h.wi, I64 h.re, I64 h.se], SV.agg [SV.bool false, SV.str [], SV.bool false], SV.bool false] = .tuple [(sndV h).sv, .agg [.bool false, .str (sndT h), .bool false], .bool (sndB h)] := fun c => by
      rw [(snd_no c).1, (snd_no c).2, c]; rfl
    refine ⟨hs, fun c => no (by unfold sndB; rw [c]; rfl), fun c => ?_⟩
    obtain ⟨hp, hsn⟩ := valid_to c
    unfold hostP at hp
    rw [wrap64 (x := h.ba + h.wi) (by omega) (by omega)]
    refine ⟨fun d => no (by unfold sndB; rw [c, beq_iff_eq.2 d]; rfl), fun d => ⟨fun e => no (by unfold sndB; rw [c, decide_eq_true e]; simp), fun e => ?_⟩⟩
    rw [wrap64 (x := h.ne - 1) (by omega) (by omega), wrap64 (x := h.ne + 1) (by omega) (by omega)]
    obtain ⟨g1, g2⟩ := sends_get hsn (i := h.ne - 1) (by omega) (by omega)
    have hfr := frame_of (n := h.ne) (by omega) (by omega) g1 g2
    have yes : sndB h = true := by unfold sndB; rw [c, beq_eq_false_iff_ne.2 d, decide_eq_false e]; rfl
    obtain ⟨y1, y2⟩ := snd_yes yes
    refine ⟨by omega, smalls_get hs (by omega) (by omega), ?_⟩
    rw [y1, y2, yes]
    exact ⟨by omega, rfl⟩) (by kernel_rfl) (by kernel_rfl)
theorem s_ans (s : List UInt8)(hs : small s = true) : SCall Try.prog 59 [.str s] (.tuple [.str (aW s), I64 (aN s), .bool (aB s)]) :=
  scall_v mix [fParted, fCut, fXor, fNum] ⟨o_parted, o_cut, o_xor, o_num, trivial⟩ 1000 (.fork (.lit (.lit (.lit (.lit (.lit (.all)))))) (.lit (.lit (.lit (.lit (.fork (.all) (.lit (.lit (.fork (.lit (.lit (.lit (.lit (.lit (.all)))))) (.lit (.lit (.fork (.lit (.lit (.lit (.lit (.fork (.all) (.all)))))) (.lit (.lit (.lit (.lit (.lit (.all))))))))))))))))))
   (t := .req (small s) (.node (!cO s)
  (.leaf (SV.tuple [SV.str [], I64 0, SV.bool false]))
  (.req (small (hd s)) (.node (cN s != xr (hd s))
    (.leaf (SV.tuple [SV.str [], I64 0, SV.bool false]))
    (.req (small (hd s)) (.node (!cutC (hd s) 32)
      (.leaf (SV.tuple [SV.str [], I64 0, SV.bool false]))
      (.node (!cutA (hd s) 32 == [111, 107])
       (.node (!cutA (hd s) 32 == [114, 101, 115, 101, 110, 100])
        (.leaf (SV.tuple [SV.str [], I64 0, SV.bool false]))
        (.req (true) (.leaf (SV.tuple [SV.str (cutA (hd s) 32), I64 (numN (MC + 1) (cutB (hd s) 32)), SV.bool (numO (MC + 1) (cutB (hd s) 32))]))))
       (.req (true) (.leaf (SV.tuple [SV.str (cutA (hd s) 32), I64 (numN (MC + 1) (cutB (hd s) 32)), SV.bool (numO (MC + 1) (cutB (hd s) 32))]))))))))))
   (by kernel_rfl) (by 
    have hh := hd_len s
    have sh := small_le hh hs
    have no : aE s = false → SV.tuple [SV.str [], I64 0, SV.bool false] = .tuple [.str (aW s), I64 (aN s), .bool (aB s)] := fun c => by unfold aW aN aB; rw [c]; rfl
    have yes : aE s = true → SV.tuple [SV.str (cutA (hd s) 32), I64 (numN (MC + 1) (cutB (hd s) 32)), SV.bool (numO (MC + 1) (cutB (hd s) 32))] = .tuple [.str (aW s), I64 (aN s), .bool (aB s)] := fun c => by unfold aW aN aB; rw [c]; rfl
    simp only [Tree.holds, decide_eq_true_eq, decide_eq_false_iff_not, Bool.not_eq_true', Bool.not_eq_false', Bool.and_eq_true, beq_iff_eq, beq_eq_false_iff_ne, bne_iff_ne, bne_eq_false_iff_eq]
    refine ⟨hs, fun a => no (by simp [aE, a]), fun a => ⟨sh, fun b => no (by simp [aE, b]), fun b => ⟨sh, fun c => no (by simp [aE, c]), fun c => ⟨fun d => ⟨fun e => no ?_, fun e => ⟨by trivial, yes ?_⟩⟩, fun d => ⟨by trivial, yes ?_⟩⟩⟩⟩⟩
    · have d1 : ¬ cutA (hd s) 32 = wOk := d
      have e1 : ¬ cutA (hd s) 32 = wRe := e
      simp [aE, a, b, c, d1, e1]
    · have e1 : cutA (hd s) 32 = wRe := e
      simp [aE, a, b, c, e1]
    · have e1 : cutA (hd s) 32 = wOk := d
      simp [aE, a, b, c, e1]) (by kernel_rfl) (by kernel_rfl)
theorem s_rpl (s w : List UInt8)(hs : small s = true) (hw : (w == wOk || w == wRe) = true) : SCall Try.prog 63 [.str s, .str w] (.tuple [I64 (rplN w s), .bool (rplB w s)]) :=
  scall_v mix [fFind2, fParse, fReplyR] ⟨o_find2, o_parse, o_Reply, trivial⟩ 1000 (.fork (.lit (.lit (.lit (.lit (.lit (.lit (.lit (.all)))))))) (.lit (.lit (.lit (.lit (.lit (.lit (.fork (.all) (.lit (.fork (.all) (.fork (.lit (.lit (.lit (.lit (.lit (.lit (.lit (.lit (.lit (.lit (.lit (.lit (.all))))))))))))) (.lit (.lit (.fork (.lit (.lit (.lit (.lit (.lit (.lit (.lit (.lit (.lit (.all)))))))))) (.lit (.lit (.fork (.lit (.lit (.lit (.lit (.lit (.lit (.all))))))) (.lit (.lit (.lit (.lit (.lit (.fork (.all) (.all))))))))))))))))))))))))
   (t := .node (decide ((↑s.length : Int) < IntKind.i64.wrap ((↑w.length : Int) + 2)))
 (.leaf (SV.tuple [I64 0, SV.bool false]))
 (.req (decide (0 ≤ (↑w.length : Int)) && decide ((↑w.length : Int) ≤ (↑s.length : Int))) (.node (!List.take ((↑w.length : Int)).toNat s == w)
   (.leaf (SV.tuple [I64 0, SV.bool false]))
   (.req (small s) (.node (decide (ix s 42 < IntKind.i64.wrap ((↑w.length : Int) + 1)))
     (.leaf (SV.tuple [I64 0, SV.bool false]))
     (.req (decide (0 ≤ ix s 42) && decide (ix s 42 ≤ (↑s.length : Int)) && decide (0 ≤ IntKind.i64.wrap ((↑w.length : Int) + 1)) && decide (IntKind.i64.wrap ((↑w.length : Int) + 1) ≤ ix s 42)) (.req (small (List.drop (IntKind.i64.wrap ((↑w.length : Int) + 1)).toNat (List.take (ix s 42).toNat s))) (.node ((parseV (List.drop (IntKind.i64.wrap ((↑w.length : Int) + 1)).toNat (List.take (ix s 42).toNat s))).snd != 0)
        (.leaf (SV.tuple [I64 0, SV.bool false]))
        (.node (decide ((parseV (List.drop (IntKind.i64.wrap ((↑w.length : Int) + 1)).toNat (List.take (ix s 42).toNat s))).fst < 0))
         (.leaf (SV.tuple [I64 0, SV.bool false]))
         (.node (decide ((parseV (List.drop (IntKind.i64.wrap ((↑w.length : Int) + 1)).toNat (List.take (ix s 42).toNat s))).fst > (MC + 1)))
          (.leaf (SV.tuple [I64 0, SV.bool false]))
          (.req (decide ((↑w.length : Int) ≤ 100)) (.node (!s == repl w (parseV (List.drop (IntKind.i64.wrap ((↑w.length : Int) + 1)).toNat (List.take (ix s 42).toNat s))).fst)
            (.leaf (SV.tuple [I64 0, SV.bool false]))
            (.leaf (SV.tuple [I64 (parseV (List.drop (IntKind.i64.wrap ((↑w.length : Int) + 1)).toNat (List.take (ix s 42).toNat s))).fst, SV.bool true]))))))))))))))
   (by kernel_rfl) (by 
    have hw : w = wOk ∨ w = wRe := by simpa using hw
    have hwl : (w.length : Int) ≤ 6 := by rcases hw with h | h <;> subst h <;> decide
    have hs' := small_iff.1 hs
    have hMC := MC_eq
    have no : rplB w s = false → SV.tuple [I64 0, SV.bool false] = .tuple [I64 (rplN w s), .bool (rplB w s)] := fun c => by unfold rplN; rw [c]; rfl
    have hl := ix_lt s 42
    have hg := ix_ge s 42
    simp only [wrap64 (x := (w.length : Int) + 2) (by omega) (by omega), wrap64 (x := (w.length : Int) + 1) (by omega) (by omega)]
    simp only [Tree.holds, decide_eq_true_eq, decide_eq_false_iff_not, Bool.not_eq_true', Bool.not_eq_false', Bool.and_eq_true, beq_iff_eq, beq_eq_false_iff_ne, bne_iff_ne, bne_eq_false_iff_eq]
    cases hR : rplB w s with
    | false =>
      have no' := fun _ : rplB w s = false => (no hR)
      rw [hR] at no'
      refine ⟨fun _ => no' rfl, fun a => ⟨⟨by omega, by omega⟩, fun _ => no' rfl, fun b => ⟨hs, fun _ => no' rfl, fun c => ⟨⟨⟨⟨by omega, by omega⟩, by omega⟩, by omega⟩, small_le (by rw [List.length_drop, List.length_take]; omega) hs, fun _ => no' rfl, fun d => ⟨fun _ => no' rfl, fun e => ⟨fun _ => no' rfl, fun f => ⟨by omega, fun _ => no' rfl, fun g => ?_⟩⟩⟩⟩⟩⟩⟩
      have := (rpl_of hw (n := (parseV (List.drop ((w.length : Int) + 1).toNat (List.take (ix s 42).toNat s))).1) (by omega) (by omega)).1
      rw [← g, hR] at this
      cases this
    | true =>
      obtain ⟨e, h0, h1, _⟩ := rpl_to hR
      obtain ⟨r1, r2, r3⟩ := rpl_of hw h0 h1
      rw [← e] at r3
      have yes : rplN w s = aN s := by unfold rplN; rw [hR, if_pos rfl]
      rw [yes]
      generalize aN s = n at *
      have hn := fmt_ne n
      have hlen : s.length = w.length + 1 + (fmt n).length + 1 + (fmt (xr (w ++ [32] ++ fmt n))).length := by
        conv => lhs; rw [e]
        unfold repl; simp; omega
      have ht : List.take w.length s = w := by
        conv => lhs; rw [e]
        unfold repl; simp
      have hsl : List.drop ((w.length : Int) + 1).toNat (List.take (ix s 42).toNat s) = fmt n := by
        rw [r3]
        conv => lhs; rw [e]
        unfold repl
        have e3 : w ++ [32] ++ fmt n ++ [42] ++ fmt (xr (w ++ [32] ++ fmt n)) = (w ++ [32]) ++ (fmt n ++ ([42] ++ fmt (xr (w ++ [32] ++ fmt n)))) := by simp
        rw [e3, show ((w.length : Int) + 1 + (fmt n).length).toNat = (w ++ [32]).length + (fmt n).length by simp; omega, show ((w.length : Int) + 1).toNat = (w ++ [32]).length by simp, List.take_length_add_append, List.drop_left, List.take_left]
      rw [hsl, parse_fmt h0 h1]
      dsimp only
      refine ⟨fun a => by omega, fun a => ⟨⟨by omega, by omega⟩, fun b => absurd ht b, fun b => ⟨hs, fun c => by omega, fun c => ⟨⟨⟨⟨by omega, by omega⟩, by omega⟩, by omega⟩, small_le (s := s) (by omega) hs, fun d => absurd rfl d, fun d => ⟨fun f => by omega, fun f => ⟨fun g => by omega, fun g => ⟨by omega, fun k => absurd e k, fun _ => rfl⟩⟩⟩⟩⟩⟩⟩) (by kernel_rfl) (by kernel_rfl)
theorem o_ans : fAns.ok Try.prog := factL_ok s_ans
theorem o_rpl : fRpl.ok Try.prog := fun args t ht => by
  simp only [fRpl] at ht
  split at ht
  · injection ht with ht; subst ht
    intro h
    rw [Bool.and_eq_true] at h
    exact s_rpl _ _ h.1 h.2
  · cases ht
end Go.Proofs.Ytibpodgdondakaa
set_option linter.unusedSimpArgs false
set_option linter.unusedVariables false
set_option maxRecDepth 100000
namespace Go.Proofs.Ytibpodgdondakaa
open Go.Sx

theorem s_aga (h : Ho) (k : Int) (hs : smallsB h.ls = true) : SCall Try.prog 34 [h.sv, I64 k] (agaS (agaV h k)) := by
  refine scallR_loops rfl rfl (by kernel_rfl) (runsR_seg (hK (l := [fVal, fClo]) ⟨o_val, o_clo, trivial⟩) (n := 1000) (hint := .str) (keep := keepS 26 []) (p := aga0_p) (boxes := []) rfl ?_)
  have e := aga0 h k
  unfold startS codeS at e
  erw [e]
  unfold aga0_t
  obtain ⟨hf, hlen⟩ := few_smalls hs
  rw [wrap64 (x := (h.ls.length : Int) + 1) (by omega) (by omega)]
  simp only [Tree.holds, decide_eq_true_eq, decide_eq_false_iff_not, Bool.not_eq_true', Bool.not_eq_false']
  have no : (validB h = false ∨ k < 1 ∨ k > (h.ls.length : Int) + 1) → agaV h k = (zeroH, 1) := fun c => by unfold agaV; rw [if_pos c]
  refine ⟨hs, fun c => ?_, fun c => ⟨fun d => ?_, fun d => ⟨fun e => ?_, fun e => ⟨hf, ?_⟩⟩⟩⟩
  · rw [no (.inl c)]; rfl
  · rw [no (.inr (.inl d))]; rfl
  · rw [no (.inr (.inr e))]; rfl
  · unfold agaV; rw [if_neg (by rw [c]; simp; omega)]; rfl
theorem s_agaR (h : Ho) (k : Int) (hs : smallsB h.ls = true) : SCall Try.prog 35 [h.sv, I64 k] (agaS (agaV h k)) := by
  refine scallR_loops rfl rfl (by kernel_rfl) (runsR_seg (hK (l := [fValR]) ⟨o_valR, trivial⟩) (n := 1000) (hint := .str) (keep := keepS 26 []) (p := agaR0_p) (boxes := []) rfl ?_)
  have e := agaR0 h k
  unfold startS codeS at e
  erw [e]
  unfold agaR0_t
  obtain ⟨hf, hlen⟩ := few_smalls hs
  rw [wrap64 (x := (h.ls.length : Int) + 1) (by omega) (by omega)]
  simp only [Tree.holds, decide_eq_true_eq, decide_eq_false_iff_not, Bool.not_eq_true', Bool.not_eq_false']
  have no : (validB h = false ∨ k < 1 ∨ k > (h.ls.length : Int) + 1) → agaV h k = (zeroH, 1) := fun c => by unfold agaV; rw [if_pos c]
  refine ⟨hs, fun c => ?_, fun c => ⟨fun d => ?_, fun d => ⟨fun e => ?_, fun e => ?_⟩⟩⟩
  · rw [no (.inl c)]; rfl
  · rw [no (.inr (.inl d))]; rfl
  · rw [no (.inr (.inr e))]; rfl
  · unfold agaV; rw [if_neg (by rw [c]; simp; omega)]; rfl

def hoS (h : Ho) : SV := .agg [.list .str h.ls, I64 h.ba, I64 h.ne, I64 h.wi, I64 h.re, I64 h.se]
def factHN (f : FuncId) (h : Ho → Int → Tree SV) : Fact := ⟨f, fun args => match args with
  | [.agg [.list .str l, .int .i64 a, .int .i64 b, .int .i64 c, .int .i64 d, .int .i64 e], .int .i64 k] => some (.req (smallsB l) (h ⟨l, a, b, c, d, e⟩ k))
  | _ => none⟩
theorem factHN_ok {P : Program} {f : FuncId} {h : Ho → Int → Tree SV} (q : ∀ (x : Ho) (k : Int), smallsB x.ls = true → (h x k).says (SCall P f [x.sv, I64 k])) : (factHN f h).ok P := fun args t ht => by
  simp only [factHN] at ht
  split at ht
  · injection ht with ht; subst ht; exact q ⟨_, _, _, _, _, _⟩ _
  · cases ht
def agaT (h : Ho) (k : Int) : Tree SV := .leaf (.tuple [.agg [.list .str (agaV h k).1.ls, I64 (agaV h k).1.ba, I64 (agaV h k).1.ne, I64 (agaV h k).1.wi, I64 (agaV h k).1.re, I64 (agaV h k).1.se], I64 (agaV h k).2])
def fAga : Fact := factHN 34 agaT
def fAgaR : Fact := factHN 35 agaT
theorem o_aga : fAga.ok Try.prog := factHN_ok s_aga
theorem o_agaR : fAgaR.ok Try.prog := factHN_ok s_agaR
def sndTr (h : Ho) : Tree SV := .leaf (.tuple [.agg [.list .str (sndV h).ls, I64 (sndV h).ba, I64 (sndV h).ne, I64 (sndV h).wi, I64 (sndV h).re, I64 (sndV h).se], .agg [.bool false, .str (sndT h), .bool false], .bool (sndB h)])
def fSnd : Fact := factHS 31 sndTr
def fSndR : Fact := factHS 32 sndTr
theorem o_snd : fSnd.ok Try.prog := factHS_ok s_snd
theorem o_sndR : fSndR.ok Try.prog := factHS_ok s_sndR
def factHP (f : FuncId) (h : Ho → Bool → List UInt8 → Tree SV) : Fact := ⟨f, fun args => match args with
  | [.agg [.list .str l, .int .i64 a, .int .i64 b, .int .i64 c, .int .i64 d, .int .i64 e], .agg [.bool k, .str t, .bool _]] => some (.req (smallsB l && small t) (h ⟨l, a, b, c, d, e⟩ k t))
  | _ => none⟩
theorem factHP_ok {P : Program} {f : FuncId} {h : Ho → Bool → List UInt8 → Tree SV} (q : ∀ (x : Ho) (k : Bool) (t : List UInt8) (sp : Bool), smallsB x.ls = true → small t = true → (h x k t).says (SCall P f [x.sv, .agg [.bool k, .str t, .bool sp]])) : (factHP f h).ok P := fun args t ht => by
  simp only [factHP] at ht
  split at ht
  · injection ht with ht; subst ht
    intro hh
    rw [Bool.and_eq_true] at hh
    exact q ⟨_, _, _, _, _, _⟩ _ _ _ hh.1 hh.2
  · cases ht
def ansTr (h : Ho) (b : Bool) (t : List UInt8) : Tree SV := .leaf (.agg [.list .str (ansV h b t).ls, I64 (ansV h b t).ba, I64 (ansV h b t).ne, I64 (ansV h b t).wi, I64 (ansV h b t).re, I64 (ansV h b t).se])
def fAnsH : Fact := factHP 28 ansTr
def fAnsHR : Fact := factHP 33 ansTr
def sameL (a b : List (List UInt8)) : Bool := decide (a = b)
/-- Hosts that are compared: only the same. -/
def fSame : Fact := ⟨27, fun args => match args with
  | [.agg [.list .str l, .int .i64 a, .int .i64 b, .int .i64 c, .int .i64 d, .int .i64 e], .agg [.list .str l', .int .i64 a', .int .i64 b', .int .i64 c', .int .i64 d', .int .i64 e']] =>
    some (.req (sameL l l' && (a == a' && (b == b' && (c == c' && (d == d' && (e == e' && few2 l.length)))))) (.leaf (.bool true)))
  | _ => none⟩
theorem o_same : fSame.ok Try.prog := fun args t ht => by
  simp only [fSame] at ht
  split at ht
  · injection ht with ht; subst ht
    intro hh
    simp only [sameL, Bool.and_eq_true, decide_eq_true_eq, beq_iff_eq] at hh
    obtain ⟨rfl, rfl, rfl, rfl, rfl, rfl, hf⟩ := hh
    exact s_same_refl ⟨_, _, _, _, _, _⟩ hf
  · cases ht
theorem fewL_smalls (l : List (List UInt8)) : smallsB (fewL l) = true := by
  simp only [smallsB, fewL, Bool.and_eq_true, List.all_eq_true, few2, decide_eq_true_eq, List.length_map, List.length_take]
  refine ⟨fun t ht => ?_, by omega⟩
  obtain ⟨u, _, rfl⟩ := List.mem_map.1 ht
  exact small_take u
theorem ans_ls (h : Ho) (b : Bool) (t : List UInt8) : (ansV h b t).ls = h.ls := by unfold ansV; split; rfl; split; split <;> rfl; split <;> rfl
theorem snd_ls (h : Ho) : (sndV h).ls = h.ls := by unfold sndV; split <;> rfl
theorem aga_ls (h : Ho) (k : Int) : (agaV h k).1.ls = h.ls ∨ (agaV h k).1.ls = [] := by unfold agaV; split; exact .inr rfl; exact .inl rfl
theorem sta_ls (l : List (List UInt8)) (w : Int) : (staV l w).1.ls = l ∨ (staV l w).1.ls = [] := by unfold staV; split; exact .inr rfl; split; exact .inr rfl; exact .inl rfl
end Go.Proofs.Ytibpodgdondakaa
