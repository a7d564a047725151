/-
  GK: contracts of hosts. Written by gen.py.
-/
import Derived.Test.YtibpodgdondakaaGO
set_option linter.unusedSimpArgs false
set_option linter.unusedVariables false
set_option maxRecDepth 100000
namespace Go.Proofs.Ytibpodgdondakaa
open Go.Sx
theorem s_valR (h : Ho)(hs : smallsB h.ls = true) : SCall Try.prog 61 [h.sv] (.bool (validB h)) :=
  scall_v mix [fStaR] ⟨o_staR, trivial⟩ 1000 (.fork (.lit (.lit (.lit (.lit (.lit (.lit (.lit (.lit (.lit (.lit (.lit (.lit (.lit (.lit (.lit (.lit (.lit (.lit (.lit (.lit (.lit (.lit (.lit (.lit (.lit (.lit (.lit (.lit (.lit (.all)))))))))))))))))))))))))))))) (.lit (.lit (.lit (.fork (.lit (.lit (.lit (.lit (.lit (.lit (.lit (.lit (.lit (.lit (.lit (.lit (.lit (.lit (.lit (.lit (.lit (.lit (.lit (.lit (.lit (.lit (.lit (.lit (.lit (.all)))))))))))))))))))))))))) (.lit (.lit (.lit (.lit (.fork (.lit (.lit (.lit (.lit (.lit (.lit (.lit (.lit (.lit (.lit (.lit (.lit (.lit (.lit (.lit (.lit (.lit (.lit (.lit (.lit (.all))))))))))))))))))))) (.lit (.lit (.lit (.lit (.lit (.fork (.lit (.lit (.lit (.lit (.lit (.lit (.lit (.lit (.lit (.lit (.lit (.lit (.lit (.lit (.all))))))))))))))) (.lit (.lit (.lit (.lit (.lit (.lit (.lit (.lit (.fork (.lit (.lit (.lit (.lit (.lit (.all)))))) (.lit (.lit (.lit (.lit (.fork (.all) (.fork (.lit (.lit (.lit (.fork (.lit (.lit (.lit (.fork (.lit (.lit (.lit (.all)))) (.lit (.lit (.lit (.all)))))))) (.lit (.lit (.lit (.lit (.lit (.lit (.lit (.all)))))))))))) (.lit (.lit (.lit (.lit (.lit (.lit (.lit (.lit (.lit (.lit (.lit (.all)))))))))))))))))))))))))))))))))))))))))))
   (t := .req (smallsB h.ls) (.node ((staV h.ls h.wi).snd != 0)
  (.leaf (SV.bool false))
  (.node (decide (h.ba < 1))
   (.leaf (SV.bool false))
   (.node (decide (h.ba > IntKind.i64.wrap (((staV h.ls h.wi).fst.ls.length : Int) + 1)))
    (.leaf (SV.bool false))
    (.node (decide (h.ne < h.ba))
     (.leaf (SV.bool false))
     (.node (decide (h.ne > IntKind.i64.wrap (h.ba + h.wi)))
      (.leaf (SV.bool false))
      (.node (decide (h.ne > IntKind.i64.wrap (((staV h.ls h.wi).fst.ls.length : Int) + 1)))
       (.leaf (SV.bool false))
       (.node (decide (h.se ≥ 0))
        (.node (decide (h.se ≤ MC))
         (.node (decide (h.re ≥ 0))
          (.leaf (SV.bool (decide (h.re ≤ MC))))
          (.leaf (SV.bool false)))
         (.leaf (SV.bool false)))
        (.leaf (SV.bool false))))))))))
   (by kernel_rfl) (by 
    have hf : few2 h.ls.length = true := by simp only [smallsB, Bool.and_eq_true] at hs; exact hs.2
    have hlen : (h.ls.length : Int) ≤ 100000 := by simpa [few2] using hf
    have hMC := MC_eq
    have bad : ¬ (hostP h ∧ sendsB h.ls = true) → SV.bool false = SV.bool (validB h) := fun hn => by
      have : validB h = false := by rw [← Bool.not_eq_true]; unfold validB; rw [Bool.and_eq_true, decide_eq_true_eq]; exact hn
      rw [this]
    have good : hostP h → sendsB h.ls = true → SV.bool true = SV.bool (validB h) := fun a b => by
      unfold validB; rw [decide_eq_true a, b]; rfl
    refine ⟨hs, ?_⟩
    by_cases hb : sendsB h.ls = false ∨ h.wi < 1 ∨ h.wi > 8
    · have e : staV h.ls h.wi = (zeroH, 1) := by unfold staV; rw [if_pos hb]
      rw [e]
      refine ⟨fun _ => bad fun ⟨p, q⟩ => ?_, fun c => absurd c (by decide)⟩
      unfold hostP at p
      rw [q] at hb
      rcases hb with hb | hb
      · cases hb
      · omega
    · by_cases hl : (h.ls.length : Int) > 65536
      · have e : staV h.ls h.wi = (zeroH, 2) := by unfold staV; rw [if_neg hb, if_pos hl]
        rw [e]
        refine ⟨fun _ => bad fun ⟨p, q⟩ => ?_, fun c => absurd c (by decide)⟩
        unfold hostP at p; omega
      · have e : staV h.ls h.wi = (⟨h.ls, 1, 1, h.wi, 0, 0⟩, 0) := by unfold staV; rw [if_neg hb, if_neg hl]
        rw [e]
        have hw : 1 ≤ h.wi ∧ h.wi ≤ 8 := by omega
        have hq : sendsB h.ls = true := by
          cases hq : sendsB h.ls
          · exact absurd (.inl hq) hb
          · rfl
        dsimp only
        rw [wrap64 (x := (h.ls.length : Int) + 1) (by omega) (by omega)]
        simp only [Tree.holds, decide_eq_true_eq, decide_eq_false_iff_not]
        refine ⟨fun c => absurd c (by decide), fun _ => ⟨fun c => bad fun ⟨p, _⟩ => by unfold hostP at p; omega, fun c1 => ⟨fun c => bad fun ⟨p, _⟩ => by unfold hostP at p; omega, fun c2 => ⟨fun c => bad fun ⟨p, _⟩ => by unfold hostP at p; omega, fun c3 => ?_⟩⟩⟩⟩
        rw [wrap64 (x := h.ba + h.wi) (by omega) (by omega)]
        refine ⟨fun c => bad fun ⟨p, _⟩ => by unfold hostP at p; omega, fun c4 => ⟨fun c => bad fun ⟨p, _⟩ => by unfold hostP at p; omega, fun c5 => ⟨fun c6 => ⟨fun c7 => ⟨fun c8 => ?_, fun c => bad fun ⟨p, _⟩ => by unfold hostP at p; omega⟩, fun c => bad fun ⟨p, _⟩ => by unfold hostP at p; omega⟩, fun c => bad fun ⟨p, _⟩ => by unfold hostP at p; omega⟩⟩⟩
        by_cases c9 : h.re ≤ MC
        · rw [decide_eq_true c9]; exact good (by unfold hostP; omega) hq
        · rw [decide_eq_false c9]; exact bad fun ⟨p, _⟩ => by unfold hostP at p; omega) (by kernel_rfl) (by kernel_rfl)
theorem s_more (n : Int)(hn : n ≤ 4398046511104 ∧ -4398046511104 ≤ n) : SCall Try.prog 62 [I64 n] (I64 (moreV n)) :=
  scall_v mix [] trivial 1000 (.fork (.all) (.all))
   (t := .node (decide (n < MC))
 (.leaf (I64 (IntKind.i64.wrap (n + 1))))
 (.leaf (I64 n)))
   (by kernel_rfl) (by 
    rw [wrap64 (by omega) (by omega)]
    simp only [Tree.holds, decide_eq_true_eq, decide_eq_false_iff_not]
    refine ⟨fun c => ?_, fun c => ?_⟩
    · unfold moreV; rw [if_pos c]
    · unfold moreV; rw [if_neg c]) (by kernel_rfl) (by kernel_rfl)
theorem s_clone (h : Ho)(hf : few2 h.ls.length = true) : SCall Try.prog 58 [h.sv] (h.sv) :=
  scall_v mix [fCloS] ⟨o_cloS, trivial⟩ 1000 (.all)
   (t := .req (few2 h.ls.length) (.leaf (SV.agg [SV.list Ty.str h.ls, I64 h.ba, I64 h.ne, I64 h.wi, I64 h.re, I64 h.se])))
   (by kernel_rfl) (by 
    exact ⟨hf, rfl⟩) (by kernel_rfl) (by kernel_rfl)
theorem o_clo : fClo.ok Try.prog := factH_ok s_clone
theorem o_valR : fValR.ok Try.prog := factHS_ok s_valR
theorem o_more : fMore.ok Try.prog := fun args t ht => by
  simp only [fMore] at ht
  split at ht
  · injection ht with ht; subst ht
    intro h
    simp only [Bool.and_eq_true, decide_eq_true_eq] at h
    exact s_more _ h
  · cases ht
def aga0_p : Plan := .fork (.lit (.lit (.lit (.lit (.lit (.lit (.lit (.lit (.lit (.lit (.all))))))))))) (.lit (.lit (.fork (.lit (.lit (.lit (.lit (.lit (.lit (.lit (.all)))))))) (.lit (.lit (.lit (.lit (.lit (.lit (.fork (.all) (.all)))))))))))
noncomputable def aga0_t (h : Ho) (k : Int) : Tree Stop :=
   .req (smallsB h.ls) (.node (!validB h)
  (.leaf (Stop.done (SV.tuple [SV.agg [SV.list Ty.str [], I64 0, I64 0, I64 0, I64 0, I64 0], I64 1])))
  (.node (decide (k < 1))
   (.leaf (Stop.done (SV.tuple [SV.agg [SV.list Ty.str [], I64 0, I64 0, I64 0, I64 0, I64 0], I64 1])))
   (.node (decide (k > IntKind.i64.wrap ((↑h.ls.length : Int) + 1)))
    (.leaf (Stop.done (SV.tuple [SV.agg [SV.list Ty.str [], I64 0, I64 0, I64 0, I64 0, I64 0], I64 1])))
    (.req (few2 h.ls.length) (.leaf (Stop.done (SV.tuple [SV.agg [SV.list Ty.str h.ls, I64 k, I64 k, I64 h.wi, I64 h.re, I64 h.se], I64 0])))))))
theorem aga0 (h : Ho) (k : Int) : segR (Env.of Try.prog (sumOf [fVal, fClo])) 1000 (fnOf Try.prog 34) .str (keepS 26 []) (codeS Try.prog 34) aga0_p (startS Try.prog 34 [h.sv, I64 k]) [] = aga0_t h k := by kernel_rfl
def agaR0_p : Plan := .fork (.lit (.lit (.lit (.lit (.lit (.lit (.lit (.lit (.lit (.lit (.all))))))))))) (.lit (.lit (.fork (.lit (.lit (.lit (.lit (.lit (.lit (.lit (.all)))))))) (.lit (.lit (.lit (.lit (.lit (.lit (.fork (.all) (.all)))))))))))
noncomputable def agaR0_t (h : Ho) (k : Int) : Tree Stop :=
   .req (smallsB h.ls) (.node (!validB h)
  (.leaf (Stop.done (SV.tuple [SV.agg [SV.list Ty.str [], I64 0, I64 0, I64 0, I64 0, I64 0], I64 1])))
  (.node (decide (k < 1))
   (.leaf (Stop.done (SV.tuple [SV.agg [SV.list Ty.str [], I64 0, I64 0, I64 0, I64 0, I64 0], I64 1])))
   (.node (decide (k > IntKind.i64.wrap ((↑h.ls.length : Int) + 1)))
    (.leaf (Stop.done (SV.tuple [SV.agg [SV.list Ty.str [], I64 0, I64 0, I64 0, I64 0, I64 0], I64 1])))
    (.leaf (Stop.done (SV.tuple [SV.agg [SV.list Ty.str h.ls, I64 k, I64 k, I64 h.wi, I64 h.re, I64 h.se], I64 0]))))))
theorem agaR0 (h : Ho) (k : Int) : segR (Env.of Try.prog (sumOf [fValR])) 1000 (fnOf Try.prog 35) .str (keepS 26 []) (codeS Try.prog 35) agaR0_p (startS Try.prog 35 [h.sv, I64 k]) [] = agaR0_t h k := by kernel_rfl
theorem s_snd (h : Ho)(hs : smallsB h.ls = true) : SCall Try.prog 31 [h.sv] (.tuple [(sndV h).sv, .agg [.bool false, .str (sndT h), .bool false], .bool (sndB h)]) :=
  scall_v mix [fVal, fClo, fFrame] ⟨o_val, o_clo, o_frame, trivial⟩ 1000 (.fork (.lit (.lit (.lit (.lit (.lit (.lit (.lit (.lit (.lit (.lit (.lit (.lit (.lit (.lit (.lit (.lit (.all))))))))))))))))) (.lit (.lit (.lit (.lit (.lit (.lit (.lit (.lit (.fork (.lit (.lit (.lit (.lit (.lit (.lit (.lit (.all)))))))) (.lit (.lit (.lit (.lit (.lit (.lit (.fork (.all) (.fork (.all) (.all)))))))))))))))))))
   (t := .req (few2 h.ls.length) (.req (smallsB h.ls) (.node (!validB h)
   (.leaf (SV.tuple [SV.agg [SV.list Ty.str h.ls, I64 h.ba, I64 h.ne, I64 h.wi, I64 h.re, I64 h.se], SV.agg [SV.bool false, SV.str [], SV.bool false], SV.bool false]))
   (.node (h.ne == IntKind.i64.wrap (h.ba + h.wi))
    (.leaf (SV.tuple [SV.agg [SV.list Ty.str h.ls, I64 h.ba, I64 h.ne, I64 h.wi, I64 h.re, I64 h.se], SV.agg [SV.bool false, SV.str [], SV.bool false], SV.bool false]))
    (.node (decide (h.ne > (↑h.ls.length : Int)))
     (.leaf (SV.tuple [SV.agg [SV.list Ty.str h.ls, I64 h.ba, I64 h.ne, I64 h.wi, I64 h.re, I64 h.se], SV.agg [SV.bool false, SV.str [], SV.bool false], SV.bool false]))
     (.req (decide (0 ≤ IntKind.i64.wrap (h.ne - 1)) && decide (IntKind.i64.wrap (h.ne - 1) < (↑h.ls.length : Int))) (.req (small (h.ls.getD (IntKind.i64.wrap (h.ne - 1)).toNat Ty.str.dflt)) (.node ((frame h.ne (h.ls.getD (IntKind.i64.wrap (h.ne - 1)).toNat Ty.str.dflt)).snd != 0)
        (.leaf (SV.tuple [SV.agg [SV.list Ty.str h.ls, I64 h.ba, I64 h.ne, I64 h.wi, I64 h.re, I64 h.se], SV.agg [SV.bool false, SV.str [], SV.bool false], SV.bool false]))
        (.leaf (SV.tuple [SV.agg [SV.list Ty.str h.ls, I64 h.ba, I64 (IntKind.i64.wrap (h.ne + 1)), I64 h.wi, I64 h.re, I64 (if MC < IntKind.i64.wrap (h.se + 1) then MC else IntKind.i64.wrap (h.se + 1))], SV.agg [SV.bool false, SV.str (frame h.ne (h.ls.getD (IntKind.i64.wrap (h.ne - 1)).toNat Ty.str.dflt)).fst, SV.bool false], SV.bool true]))))))))))
   (by kernel_rfl) (by 
    obtain ⟨hf, hlen⟩ := few_smalls hs
    have hMC := MC_eq
    simp only [Tree.holds, decide_eq_true_eq, decide_eq_false_iff_not, Bool.not_eq_true', Bool.not_eq_false', Bool.and_eq_true, beq_iff_eq, beq_eq_false_iff_ne, bne_iff_ne, bne_eq_false_iff_eq]
    have no : sndB h = false → SV.tuple [SV.agg [SV.list Ty.str h.ls, I64 h.ba, I64 h.ne, I64 h.wi, I64 h.re, I64 h.se], SV.agg [SV.bool false, SV.str [], SV.bool false], SV.bool false] = .tuple [(sndV h).sv, .agg [.bool false, .str (sndT h), .bool false], .bool (sndB h)] := fun c => by
      rw [(snd_no c).1, (snd_no c).2, c]; rfl
    refine ⟨hf, hs, fun c => no (by unfold sndB; rw [c]; rfl), fun c => ?_⟩
    obtain ⟨hp, hsn⟩ := valid_to c
    unfold hostP at hp
    rw [wrap64 (x := h.ba + h.wi) (by omega) (by omega)]
    refine ⟨fun d => no (by unfold sndB; rw [c, beq_iff_eq.2 d]; rfl), fun d => ⟨fun e => no (by unfold sndB; rw [c, decide_eq_true e]; simp), fun e => ?_⟩⟩
    rw [wrap64 (x := h.ne - 1) (by omega) (by omega), wrap64 (x := h.ne + 1) (by omega) (by omega), wrap64 (x := h.se + 1) (by omega) (by omega)]
    obtain ⟨g1, g2⟩ := sends_get hsn (i := h.ne - 1) (by omega) (by omega)
    have hfr := frame_of (n := h.ne) (by omega) (by omega) g1 g2
    have yes : sndB h = true := by unfold sndB; rw [c, beq_eq_false_iff_ne.2 d, decide_eq_false e]; rfl
    obtain ⟨y1, y2⟩ := snd_yes yes
    refine ⟨by omega, smalls_get hs (by omega) (by omega), ?_⟩
    rw [y1, y2, yes]
    have hm : (if MC < h.se + 1 then MC else h.se + 1) = moreV h.se := by unfold moreV; split <;> split <;> omega
    rw [hm]
    exact ⟨fun c => absurd hfr c, fun _ => rfl⟩) (by kernel_rfl) (by kernel_rfl)
theorem s_sndR (h : Ho)(hs : smallsB h.ls = true) : SCall Try.prog 32 [h.sv] (.tuple [(sndV h).sv, .agg [.bool false, .str (sndT h), .bool false], .bool (sndB h)]) :=
  scall_v mix [fValR, fFrameR, fMore] ⟨o_valR, o_frameR, o_more, trivial⟩ 1000 (.fork (.lit (.lit (.lit (.lit (.lit (.lit (.lit (.lit (.lit (.lit (.lit (.lit (.lit (.lit (.lit (.lit (.all))))))))))))))))) (.lit (.lit (.lit (.lit (.lit (.lit (.lit (.lit (.fork (.lit (.lit (.lit (.lit (.lit (.lit (.lit (.all)))))))) (.lit (.lit (.lit (.lit (.lit (.lit (.fork (.all) (.all))))))))))))))))))
   (t := .req (smallsB h.ls) (.node (!validB h)
  (.leaf (SV.tuple [SV.agg [SV.list Ty.str h.ls, I64 h.ba, I64 h.ne, I64 h.wi, I64 h.re, I64 h.se], SV.agg [SV.bool false, SV.str [], SV.bool false], SV.bool false]))
  (.node (h.ne == IntKind.i64.wrap (h.ba + h.wi))
   (.leaf (SV.tuple [SV.agg [SV.list Ty.str h.ls, I64 h.ba, I64 h.ne, I64 h.wi, I64 h.re, I64 h.se], SV.agg [SV.bool false, SV.str [], SV.bool false], SV.bool false]))
   (.node (decide (h.ne > (↑h.ls.length : Int)))
    (.leaf (SV.tuple [SV.agg [SV.list Ty.str h.ls, I64 h.ba, I64 h.ne, I64 h.wi, I64 h.re, I64 h.se], SV.agg [SV.bool false, SV.str [], SV.bool false], SV.bool false]))
    (.req (decide (0 ≤ IntKind.i64.wrap (h.ne - 1)) && decide (IntKind.i64.wrap (h.ne - 1) < (↑h.ls.length : Int))) (.req (small (h.ls.getD (IntKind.i64.wrap (h.ne - 1)).toNat Ty.str.dflt)) (.req (decide (h.se ≤ 4398046511104) && decide (-4398046511104 ≤ h.se)) (.leaf (SV.tuple [SV.agg [SV.list Ty.str h.ls, I64 h.ba, I64 (IntKind.i64.wrap (h.ne + 1)), I64 h.wi, I64 h.re, I64 (moreV h.se)], SV.agg [SV.bool false, SV.str (frame h.ne (h.ls.getD (IntKind.i64.wrap (h.ne - 1)).toNat Ty.str.dflt)).fst, SV.bool false], SV.bool true])))))))))
   (by kernel_rfl) (by 
    obtain ⟨hf, hlen⟩ := few_smalls hs
    have hMC := MC_eq
    simp only [Tree.holds, decide_eq_true_eq, decide_eq_false_iff_not, Bool.not_eq_true', Bool.not_eq_false', Bool.and_eq_true, beq_iff_eq, beq_eq_false_iff_ne, bne_iff_ne, bne_eq_false_iff_eq]
    have no : sndB h = false → SV.tuple [SV.agg [SV.list Ty.str h.ls, I64 h.ba, I64 h.ne, I64 h.wi, I64 h.re, I64 h.se], SV.agg [SV.bool false, SV.str [], SV.bool false], SV.bool false] = .tuple [(sndV h).sv, .agg [.bool false, .str (sndT h), .bool false], .bool (sndB h)] := fun c => by
      rw [(snd_no c).1, (snd_no c).2, c]; rfl
    refine ⟨hs, fun c => no (by unfold sndB; rw [c]; rfl), fun c => ?_⟩
    obtain ⟨hp, hsn⟩ := valid_to c
    unfold hostP at hp
    rw [wrap64 (x := h.ba + h.wi) (by omega) (by omega)]
    refine ⟨fun d => no (by unfold sndB; rw [c, beq_iff_eq.2 d]; rfl), fun d => ⟨fun e => no (by unfold sndB; rw [c, decide_eq_true e]; simp), fun e => ?_⟩⟩
    rw [wrap64 (x := h.ne - 1) (by omega) (by omega), wrap64 (x := h.ne + 1) (by omega) (by omega)]
    obtain ⟨g1, g2⟩ := sends_get hsn (i := h.ne - 1) (by omega) (by omega)
    have hfr := frame_of (n := h.ne) (by omega) (by omega) g1 g2
    have yes : sndB h = true := by unfold sndB; rw [c, beq_eq_false_iff_ne.2 d, decide_eq_false e]; rfl
    obtain ⟨y1, y2⟩ := snd_yes yes
    refine ⟨by omega, smalls_get hs (by omega) (by omega), ?_⟩
    rw [y1, y2, yes]
    exact ⟨by omega, rfl⟩) (by kernel_rfl) (by kernel_rfl)
theorem s_ans (s : List UInt8)(hs : small s = true) : SCall Try.prog 59 [.str s] (.tuple [.str (aW s), I64 (aN s), .bool (aB s)]) :=
  scall_v mix [fParted, fCut, fXor, fNum] ⟨o_parted, o_cut, o_xor, o_num, trivial⟩ 1000 (.fork (.lit (.lit (.lit (.lit (.lit (.all)))))) (.lit (.lit (.lit (.lit (.fork (.all) (.lit (.lit (.fork (.lit (.lit (.lit (.lit (.lit (.all)))))) (.lit (.lit (.fork (.lit (.lit (.lit (.lit (.fork (.all) (.all)))))) (.lit (.lit (.lit (.lit (.lit (.all))))))))))))))))))
   (t := .req (small s) (.node (!cO s)
  (.leaf (SV.tuple [SV.str [], I64 0, SV.bool false]))
  (.req (small (hd s)) (.node (cN s != xr (hd s))
    (.leaf (SV.tuple [SV.str [], I64 0, SV.bool false]))
    (.req (small (hd s)) (.node (!cutC (hd s) 32)
      (.leaf (SV.tuple [SV.str [], I64 0, SV.bool false]))
      (.node (!cutA (hd s) 32 == [111, 107])
       (.node (!cutA (hd s) 32 == [114, 101, 115, 101, 110, 100])
        (.leaf (SV.tuple [SV.str [], I64 0, SV.bool false]))
        (.req (true) (.leaf (SV.tuple [SV.str (cutA (hd s) 32), I64 (numN (MC + 1) (cutB (hd s) 32)), SV.bool (numO (MC + 1) (cutB (hd s) 32))]))))
       (.req (true) (.leaf (SV.tuple [SV.str (cutA (hd s) 32), I64 (numN (MC + 1) (cutB (hd s) 32)), SV.bool (numO (MC + 1) (cutB (hd s) 32))]))))))))))
   (by kernel_rfl) (by 
    have hh := hd_len s
    have sh := small_le hh hs
    have no : aE s = false → SV.tuple [SV.str [], I64 0, SV.bool false] = .tuple [.str (aW s), I64 (aN s), .bool (aB s)] := fun c => by unfold aW aN aB; rw [c]; rfl
    have yes : aE s = true → SV.tuple [SV.str (cutA (hd s) 32), I64 (numN (MC + 1) (cutB (hd s) 32)), SV.bool (numO (MC + 1) (cutB (hd s) 32))] = .tuple [.str (aW s), I64 (aN s), .bool (aB s)] := fun c => by unfold aW aN aB; rw [c]; rfl
    simp only [Tree.holds, decide_eq_true_eq, decide_eq_false_iff_not, Bool.not_eq_true', Bool.not_eq_false', Bool.and_eq_true, beq_iff_eq, beq_eq_false_iff_ne, bne_iff_ne, bne_eq_false_iff_eq]
    refine ⟨hs, fun a => no (by simp [aE, a]), fun a => ⟨sh, fun b => no (by simp [aE, b]), fun b => ⟨sh, fun c => no (by simp [aE, c]), fun c => ⟨fun d => ⟨fun e => no ?_, fun e => ⟨by trivial, yes ?_⟩⟩, fun d => ⟨by trivial, yes ?_⟩⟩⟩⟩⟩
    · have d1 : ¬ cutA (hd s) 32 = wOk := d
      have e1 : ¬ cutA (hd s) 32 = wRe := e
      simp [aE, a, b, c, d1, e1]
    · have e1 : cutA (hd s) 32 = wRe := e
      simp [aE, a, b, c, e1]
    · have e1 : cutA (hd s) 32 = wOk := d
      simp [aE, a, b, c, e1]) (by kernel_rfl) (by kernel_rfl)
theorem s_rpl (s w : List UInt8)(hs : small s = true) (hw : (w == wOk || w == wRe) = true) : SCall Try.prog 63 [.str s, .str w] (.tuple [I64 (rplN w s), .bool (rplB w s)]) :=
  scall_v mix [fFind2, fParse, fReplyR] ⟨o_find2, o_parse, o_Reply, trivial⟩ 1000 (.fork (.lit (.lit (.lit (.lit (.lit (.lit (.lit (.all)))))))) (.lit (.lit (.lit (.lit (.lit (.lit (.fork (.all) (.lit (.fork (.all) (.fork (.lit (.lit (.lit (.lit (.lit (.lit (.lit (.lit (.lit (.lit (.lit (.lit (.all))))))))))))) (.lit (.lit (.fork (.lit (.lit (.lit (.lit (.lit (.lit (.lit (.lit (.lit (.all)))))))))) (.lit (.lit (.fork (.lit (.lit (.lit (.lit (.lit (.lit (.all))))))) (.lit (.lit (.lit (.lit (.lit (.fork (.all) (.all))))))))))))))))))))))))
   (t := .node (decide ((↑s.length : Int) < IntKind.i64.wrap ((↑w.length : Int) + 2)))
 (.leaf (SV.tuple [I64 0, SV.bool false]))
 (.req (decide (0 ≤ (↑w.length : Int)) && decide ((↑w.length : Int) ≤ (↑s.length : Int))) (.node (!List.take ((↑w.length : Int)).toNat s == w)
   (.leaf (SV.tuple [I64 0, SV.bool false]))
   (.req (small s) (.node (decide (ix s 42 < IntKind.i64.wrap ((↑w.length : Int) + 1)))
     (.leaf (SV.tuple [I64 0, SV.bool false]))
     (.req (decide (0 ≤ ix s 42) && decide (ix s 42 ≤ (↑s.length : Int)) && decide (0 ≤ IntKind.i64.wrap ((↑w.length : Int) + 1)) && decide (IntKind.i64.wrap ((↑w.length : Int) + 1) ≤ ix s 42)) (.req (small (List.drop (IntKind.i64.wrap ((↑w.length : Int) + 1)).toNat (List.take (ix s 42).toNat s))) (.node ((parseV (List.drop (IntKind.i64.wrap ((↑w.length : Int) + 1)).toNat (List.take (ix s 42).toNat s))).snd != 0)
        (.leaf (SV.tuple [I64 0, SV.bool false]))
        (.node (decide ((parseV (List.drop (IntKind.i64.wrap ((↑w.length : Int) + 1)).toNat (List.take (ix s 42).toNat s))).fst < 0))
         (.leaf (SV.tuple [I64 0, SV.bool false]))
         (.node (decide ((parseV (List.drop (IntKind.i64.wrap ((↑w.length : Int) + 1)).toNat (List.take (ix s 42).toNat s))).fst > (MC + 1)))
          (.leaf (SV.tuple [I64 0, SV.bool false]))
          (.req (decide ((↑w.length : Int) ≤ 100)) (.node (!s == repl w (parseV (List.drop (IntKind.i64.wrap ((↑w.length : Int) + 1)).toNat (List.take (ix s 42).toNat s))).fst)
            (.leaf (SV.tuple [I64 0, SV.bool false]))
            (.leaf (SV.tuple [I64 (parseV (List.drop (IntKind.i64.wrap ((↑w.length : Int) + 1)).toNat (List.take (ix s 42).toNat s))).fst, SV.bool true]))))))))))))))
   (by kernel_rfl) (by 
    have hw : w = wOk ∨ w = wRe := by simpa using hw
    have hwl : (w.length : Int) ≤ 6 := by rcases hw with h | h <;> subst h <;> decide
    have hs' := small_iff.1 hs
    have hMC := MC_eq
    have no : rplB w s = false → SV.tuple [I64 0, SV.bool false] = .tuple [I64 (rplN w s), .bool (rplB w s)] := fun c => by unfold rplN; rw [c]; rfl
    have hl := ix_lt s 42
    have hg := ix_ge s 42
    simp only [wrap64 (x := (w.length : Int) + 2) (by omega) (by omega), wrap64 (x := (w.length : Int) + 1) (by omega) (by omega)]
    simp only [Tree.holds, decide_eq_true_eq, decide_eq_false_iff_not, Bool.not_eq_true', Bool.not_eq_false', Bool.and_eq_true, beq_iff_eq, beq_eq_false_iff_ne, bne_iff_ne, bne_eq_false_iff_eq]
    cases hR : rplB w s with
    | false =>
      have no' := fun _ : rplB w s = false => (no hR)
      rw [hR] at no'
      refine ⟨fun _ => no' rfl, fun a => ⟨⟨by omega, by omega⟩, fun _ => no' rfl, fun b => ⟨hs, fun _ => no' rfl, fun c => ⟨⟨⟨⟨by omega, by omega⟩, by omega⟩, by omega⟩, small_le (by rw [List.length_drop, List.length_take]; omega) hs, fun _ => no' rfl, fun d => ⟨fun _ => no' rfl, fun e => ⟨fun _ => no' rfl, fun f => ⟨by omega, fun _ => no' rfl, fun g => ?_⟩⟩⟩⟩⟩⟩⟩
      have := (rpl_of hw (n := (parseV (List.drop ((w.length : Int) + 1).toNat (List.take (ix s 42).toNat s))).1) (by omega) (by omega)).1
      rw [← g, hR] at this
      cases this
    | true =>
      obtain ⟨e, h0, h1, _⟩ := rpl_to hR
      obtain ⟨r1, r2, r3⟩ := rpl_of hw h0 h1
      rw [← e] at r3
      have yes : rplN w s = aN s := by unfold rplN; rw [hR, if_pos rfl]
      rw [yes]
      generalize aN s = n at *
      have hn := fmt_ne n
      have hlen : s.length = w.length + 1 + (fmt n).length + 1 + (fmt (xr (w ++ [32] ++ fmt n))).length := by
        conv => lhs; rw [e]
        unfold repl; simp; omega
      have ht : List.take w.length s = w := by
        conv => lhs; rw [e]
        unfold repl; simp
      have hsl : List.drop ((w.length : Int) + 1).toNat (List.take (ix s 42).toNat s) = fmt n := by
        rw [r3]
        conv => lhs; rw [e]
        unfold repl
        have e3 : w ++ [32] ++ fmt n ++ [42] ++ fmt (xr (w ++ [32] ++ fmt n)) = (w ++ [32]) ++ (fmt n ++ ([42] ++ fmt (xr (w ++ [32] ++ fmt n)))) := by simp
        rw [e3, show ((w.length : Int) + 1 + (fmt n).length).toNat = (w ++ [32]).length + (fmt n).length by simp; omega, show ((w.length : Int) + 1).toNat = (w ++ [32]).length by simp, List.take_length_add_append, List.drop_left, List.take_left]
      rw [hsl, parse_fmt h0 h1]
      dsimp only
      refine ⟨fun a => by omega, fun a => ⟨⟨by omega, by omega⟩, fun b => absurd ht b, fun b => ⟨hs, fun c => by omega, fun c => ⟨⟨⟨⟨by omega, by omega⟩, by omega⟩, by omega⟩, small_le (s := s) (by omega) hs, fun d => absurd rfl d, fun d => ⟨fun f => by omega, fun f => ⟨fun g => by omega, fun g => ⟨by omega, fun k => absurd e k, fun _ => rfl⟩⟩⟩⟩⟩⟩⟩) (by kernel_rfl) (by kernel_rfl)
theorem o_ans : fAns.ok Try.prog := factL_ok s_ans
theorem o_rpl : fRpl.ok Try.prog := fun args t ht => by
  simp only [fRpl] at ht
  split at ht
  · injection ht with ht; subst ht
    intro h
    rw [Bool.and_eq_true] at h
    exact s_rpl _ _ h.1 h.2
  · cases ht
end Go.Proofs.Ytibpodgdondakaa
