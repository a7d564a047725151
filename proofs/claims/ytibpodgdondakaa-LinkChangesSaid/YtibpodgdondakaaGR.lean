/-
  GR: Answer, and the law on hosts. Written by gen.py.
-/
import Derived.Test.YtibpodgdondakaaGP
set_option linter.unusedSimpArgs false
set_option linter.unusedVariables false
set_option maxRecDepth 100000
namespace Go.Proofs.Ytibpodgdondakaa
open Go.Sx
theorem s_Ans (h : Ho) (b : Bool) (t : List UInt8) (sp : Bool)(hs : smallsB h.ls = true) (ht : small t = true) : SCall Try.prog 28 [h.sv, .agg [.bool b, .str t, .bool sp]] ((ansV h b t).sv) :=
  scall_v mix [fVal, fClo, fAns] ⟨o_val, o_clo, o_ans, trivial⟩ 1000 (.fork (.lit (.lit (.lit (.lit (.lit (.lit (.lit (.all)))))))) (.lit (.lit (.lit (.fork (.lit (.lit (.lit (.all)))) (.lit (.lit (.fork (.all) (.fork (.lit (.lit (.lit (.lit (.lit (.fork (.all) (.fork (.lit (.lit (.fork (.lit (.lit (.lit (.lit (.fork (.all) (.all)))))) (.lit (.lit (.lit (.lit (.lit (.all))))))))) (.lit (.lit (.lit (.lit (.lit (.lit (.lit (.lit (.all)))))))))))))))) (.lit (.lit (.lit (.lit (.lit (.lit (.fork (.lit (.lit (.fork (.lit (.lit (.lit (.lit (.fork (.all) (.all)))))) (.lit (.lit (.lit (.lit (.lit (.all))))))))) (.lit (.lit (.lit (.lit (.lit (.lit (.lit (.lit (.all)))))))))))))))))))))))))
   (t := .req (few2 h.ls.length) (.req (small t) (.req (smallsB h.ls) (.node (!validB h)
    (.leaf (SV.agg [SV.list Ty.str h.ls, I64 h.ba, I64 h.ne, I64 h.wi, I64 h.re, I64 h.se]))
    (.node (!b)
     (.leaf (SV.agg [SV.list Ty.str h.ls, I64 h.ba, I64 h.ne, I64 h.wi, I64 h.re, I64 h.se]))
     (.node (!aB t)
      (.leaf (SV.agg [SV.list Ty.str h.ls, I64 h.ba, I64 h.ne, I64 h.wi, I64 h.re, I64 h.se]))
      (.node (aW t == [111, 107])
       (.node (decide (aN t ≤ (↑h.ls.length : Int)))
        (.leaf (SV.agg [SV.list Ty.str h.ls, I64 (if IntKind.i64.wrap (aN t + 1) > h.ba then IntKind.i64.wrap (aN t + 1) else h.ba), I64 (if (if IntKind.i64.wrap (aN t + 1) > h.ba then IntKind.i64.wrap (aN t + 1) else h.ba) > h.ne then if IntKind.i64.wrap (aN t + 1) > h.ba then IntKind.i64.wrap (aN t + 1) else h.ba else h.ne), I64 h.wi, I64 h.re, I64 h.se]))
        (.node (aW t == [114, 101, 115, 101, 110, 100])
         (.node (decide (aN t ≥ 1))
          (.node (decide (aN t < h.ne))
           (.leaf (SV.agg [SV.list Ty.str h.ls, I64 (aN t), I64 (aN t), I64 h.wi, I64 (if MC < IntKind.i64.wrap (h.re + 1) then MC else IntKind.i64.wrap (h.re + 1)), I64 h.se]))
           (.leaf (SV.agg [SV.list Ty.str h.ls, I64 h.ba, I64 h.ne, I64 h.wi, I64 h.re, I64 h.se])))
          (.leaf (SV.agg [SV.list Ty.str h.ls, I64 h.ba, I64 h.ne, I64 h.wi, I64 h.re, I64 h.se])))
         (.leaf (SV.agg [SV.list Ty.str h.ls, I64 h.ba, I64 h.ne, I64 h.wi, I64 h.re, I64 h.se]))))
       (.node (aW t == [114, 101, 115, 101, 110, 100])
        (.node (decide (aN t ≥ 1))
         (.node (decide (aN t < h.ne))
          (.leaf (SV.agg [SV.list Ty.str h.ls, I64 (aN t), I64 (aN t), I64 h.wi, I64 (if MC < IntKind.i64.wrap (h.re + 1) then MC else IntKind.i64.wrap (h.re + 1)), I64 h.se]))
          (.leaf (SV.agg [SV.list Ty.str h.ls, I64 h.ba, I64 h.ne, I64 h.wi, I64 h.re, I64 h.se])))
         (.leaf (SV.agg [SV.list Ty.str h.ls, I64 h.ba, I64 h.ne, I64 h.wi, I64 h.re, I64 h.se])))
        (.leaf (SV.agg [SV.list Ty.str h.ls, I64 h.ba, I64 h.ne, I64 h.wi, I64 h.re, I64 h.se]))))))))))
   (by kernel_rfl) (by 
    obtain ⟨hf, hlen⟩ := few_smalls hs
    have hMC := MC_eq
    cases hv : validB h with
    | false => rw [ans_no (.inl hv)]; simp [Tree.holds, hs, ht, hf]; rfl
    | true =>
    cases b with
    | false => rw [ans_no (.inr (.inl rfl))]; simp [Tree.holds, hs, ht, hf]; rfl
    | true =>
    cases ha : aB t with
    | false => rw [ans_no (.inr (.inr ha))]; simp [Tree.holds, hs, ht, hf, ha, rplB]; rfl
    | true =>
    obtain ⟨hw, h0, h1⟩ := aW_or ha
    obtain ⟨hp, hsn⟩ := valid_to hv
    unfold hostP at hp
    have hno : ¬ (validB h = false ∨ true = false ∨ aB t = false) := by rw [hv, ha]; simp
    have hm : (if MC < IntKind.i64.wrap (h.re + 1) then MC else IntKind.i64.wrap (h.re + 1)) = moreV h.re := by
      rw [wrap64 (by omega) (by omega)]; unfold moreV; split <;> split <;> omega
    have ewr : ¬ ([114, 101, 115, 101, 110, 100] : List UInt8) = [111, 107] := by decide
    have eor : ¬ ([111, 107] : List UInt8) = [114, 101, 115, 101, 110, 100] := by decide
    rcases hw with hw | hw
    · have hw' : aW t = [111, 107] := hw
      by_cases hn : aN t ≤ h.ls.length
      · have e : ansV h true t = { h with ba := if h.ba < aN t + 1 then aN t + 1 else h.ba, ne := if h.ne < aN t + 1 then aN t + 1 else h.ne } := by unfold ansV; rw [if_neg hno, if_pos hw, if_pos hn]
        rw [e]
        simp only [Tree.holds, hs, ht, hf, hw', hn, beq_self_eq_true, decide_true, Bool.not_true, Bool.not_false, Bool.false_eq_true, false_implies, true_implies, true_and, and_true, Bool.true_eq_false]
        rw [wrap64 (x := aN t + 1) (by omega) (by omega)]
        unfold Ho.sv Ho.cells
        dsimp only
        have e1 : (if aN t + 1 > h.ba then aN t + 1 else h.ba) = (if h.ba < aN t + 1 then aN t + 1 else h.ba) := rfl
        have e2 : (if (if aN t + 1 > h.ba then aN t + 1 else h.ba) > h.ne then if aN t + 1 > h.ba then aN t + 1 else h.ba else h.ne) = (if h.ne < aN t + 1 then aN t + 1 else h.ne) := by (repeat' split) <;> omega
        rw [e2]
      · have e : ansV h true t = h := by unfold ansV; rw [if_neg hno, if_pos hw, if_neg hn]
        rw [e]
        simp only [Tree.holds, hs, ht, hf, hw', hn, eor, beq_self_eq_true, decide_true, decide_false, Bool.not_true, Bool.not_false, Bool.false_eq_true, false_implies, true_implies, true_and, and_true, Bool.true_eq_false, beq_eq_false_iff_ne, beq_iff_eq, ne_eq, not_false_eq_true, not_true_eq_false]
        rfl
    · have hw' : aW t = [114, 101, 115, 101, 110, 100] := hw
      have hw2 : ¬ aW t = wOk := by rw [hw]; decide
      by_cases hn : 1 ≤ aN t ∧ aN t < h.ne
      · have e : ansV h true t = { h with ba := aN t, ne := aN t, re := moreV h.re } := by unfold ansV; rw [if_neg hno, if_neg hw2, if_pos hn]
        rw [e]
        simp only [Tree.holds, hs, ht, hf, hw', hn.1, hn.2, ge_iff_le, ewr, beq_self_eq_true, decide_true, decide_false, Bool.not_true, Bool.not_false, Bool.false_eq_true, false_implies, true_implies, true_and, and_true, Bool.true_eq_false, beq_eq_false_iff_ne, beq_iff_eq, ne_eq, not_false_eq_true, not_true_eq_false, hm]
        rfl
      · have e : ansV h true t = h := by unfold ansV; rw [if_neg hno, if_neg hw2, if_neg hn]
        rw [e]
        simp only [Tree.holds, hs, ht, hf, hw', ge_iff_le, ewr, beq_self_eq_true, decide_true, decide_false, Bool.not_true, Bool.not_false, Bool.false_eq_true, false_implies, true_implies, true_and, and_true, Bool.true_eq_false, beq_eq_false_iff_ne, beq_iff_eq, ne_eq, not_false_eq_true, not_true_eq_false, decide_eq_true_eq, decide_eq_false_iff_not]
        exact ⟨fun c => ⟨fun d => absurd ⟨c, d⟩ hn, fun _ => rfl⟩, fun _ => rfl⟩) (by kernel_rfl) (by kernel_rfl)
theorem s_AnsR (h : Ho) (b : Bool) (t : List UInt8) (sp : Bool)(hs : smallsB h.ls = true) (ht : small t = true) : SCall Try.prog 33 [h.sv, .agg [.bool b, .str t, .bool sp]] ((ansV h b t).sv) :=
  scall_v mix [fValR, fRpl, fMore] ⟨o_valR, o_rpl, o_more, trivial⟩ 1000 (.fork (.lit (.lit (.lit (.lit (.all))))) (.lit (.lit (.lit (.fork (.all) (.fork (.lit (.lit (.lit (.lit (.lit (.fork (.lit (.lit (.lit (.lit (.lit (.fork (.fork (.fork (.lit (.lit (.fork (.lit (.lit (.lit (.lit (.fork (.all) (.all)))))) (.lit (.lit (.lit (.lit (.lit (.all))))))))) (.lit (.lit (.lit (.lit (.lit (.lit (.lit (.lit (.all)))))))))) (.fork (.lit (.lit (.fork (.lit (.lit (.lit (.lit (.fork (.all) (.all)))))) (.lit (.lit (.lit (.lit (.lit (.all))))))))) (.lit (.lit (.lit (.lit (.lit (.lit (.lit (.lit (.all))))))))))) (.fork (.lit (.lit (.fork (.lit (.lit (.lit (.lit (.fork (.all) (.all)))))) (.lit (.lit (.lit (.lit (.lit (.all))))))))) (.lit (.lit (.lit (.lit (.lit (.lit (.lit (.lit (.all)))))))))))))))) (.lit (.lit (.lit (.lit (.lit (.lit (.fork (.lit (.lit (.fork (.lit (.lit (.lit (.lit (.fork (.all) (.all)))))) (.lit (.lit (.lit (.lit (.lit (.all))))))))) (.lit (.lit (.lit (.lit (.lit (.lit (.lit (.lit (.all)))))))))))))))))))))) (.lit (.lit (.lit (.lit (.lit (.lit (.lit (.lit (.lit (.lit (.lit (.lit (.fork (.lit (.lit (.fork (.lit (.lit (.lit (.lit (.fork (.all) (.all)))))) (.lit (.lit (.lit (.lit (.lit (.all))))))))) (.lit (.lit (.lit (.lit (.lit (.lit (.lit (.lit (.all))))))))))))))))))))))))))))
   (t := .req (smallsB h.ls) (.node (!validB h)
  (.leaf (SV.agg [SV.list Ty.str h.ls, I64 h.ba, I64 h.ne, I64 h.wi, I64 h.re, I64 h.se]))
  (.node (!b)
   (.leaf (SV.agg [SV.list Ty.str h.ls, I64 h.ba, I64 h.ne, I64 h.wi, I64 h.re, I64 h.se]))
   (.req (small t && true) (.node (rplB [111, 107] t)
     (.node (decide (rplN [111, 107] t ≤ (↑h.ls.length : Int)))
      (.node (decide (IntKind.i64.wrap (rplN [111, 107] t + 1) > h.ba))
       (.node (decide (h.ne < IntKind.i64.wrap (rplN [111, 107] t + 1)))
        (.req (small t && true) (.node (rplB [114, 101, 115, 101, 110, 100] t)
          (.node (decide (rplN [114, 101, 115, 101, 110, 100] t ≥ 1))
           (.node (decide (rplN [114, 101, 115, 101, 110, 100] t < IntKind.i64.wrap (rplN [111, 107] t + 1)))
            (.req (decide (h.re ≤ 4398046511104) && decide (-4398046511104 ≤ h.re)) (.leaf (SV.agg [SV.list Ty.str h.ls, I64 (rplN [114, 101, 115, 101, 110, 100] t), I64 (rplN [114, 101, 115, 101, 110, 100] t), I64 h.wi, I64 (moreV h.re), I64 h.se])))
            (.leaf (SV.agg [SV.list Ty.str h.ls, I64 (IntKind.i64.wrap (rplN [111, 107] t + 1)), I64 (IntKind.i64.wrap (rplN [111, 107] t + 1)), I64 h.wi, I64 h.re, I64 h.se])))
           (.leaf (SV.agg [SV.list Ty.str h.ls, I64 (IntKind.i64.wrap (rplN [111, 107] t + 1)), I64 (IntKind.i64.wrap (rplN [111, 107] t + 1)), I64 h.wi, I64 h.re, I64 h.se])))
          (.leaf (SV.agg [SV.list Ty.str h.ls, I64 (IntKind.i64.wrap (rplN [111, 107] t + 1)), I64 (IntKind.i64.wrap (rplN [111, 107] t + 1)), I64 h.wi, I64 h.re, I64 h.se]))))
        (.req (small t && true) (.node (rplB [114, 101, 115, 101, 110, 100] t)
          (.node (decide (rplN [114, 101, 115, 101, 110, 100] t ≥ 1))
           (.node (decide (rplN [114, 101, 115, 101, 110, 100] t < h.ne))
            (.req (decide (h.re ≤ 4398046511104) && decide (-4398046511104 ≤ h.re)) (.leaf (SV.agg [SV.list Ty.str h.ls, I64 (rplN [114, 101, 115, 101, 110, 100] t), I64 (rplN [114, 101, 115, 101, 110, 100] t), I64 h.wi, I64 (moreV h.re), I64 h.se])))
            (.leaf (SV.agg [SV.list Ty.str h.ls, I64 (IntKind.i64.wrap (rplN [111, 107] t + 1)), I64 h.ne, I64 h.wi, I64 h.re, I64 h.se])))
           (.leaf (SV.agg [SV.list Ty.str h.ls, I64 (IntKind.i64.wrap (rplN [111, 107] t + 1)), I64 h.ne, I64 h.wi, I64 h.re, I64 h.se])))
          (.leaf (SV.agg [SV.list Ty.str h.ls, I64 (IntKind.i64.wrap (rplN [111, 107] t + 1)), I64 h.ne, I64 h.wi, I64 h.re, I64 h.se])))))
       (.req (small t && true) (.node (rplB [114, 101, 115, 101, 110, 100] t)
         (.node (decide (rplN [114, 101, 115, 101, 110, 100] t ≥ 1))
          (.node (decide (rplN [114, 101, 115, 101, 110, 100] t < h.ne))
           (.req (decide (h.re ≤ 4398046511104) && decide (-4398046511104 ≤ h.re)) (.leaf (SV.agg [SV.list Ty.str h.ls, I64 (rplN [114, 101, 115, 101, 110, 100] t), I64 (rplN [114, 101, 115, 101, 110, 100] t), I64 h.wi, I64 (moreV h.re), I64 h.se])))
           (.leaf (SV.agg [SV.list Ty.str h.ls, I64 h.ba, I64 h.ne, I64 h.wi, I64 h.re, I64 h.se])))
          (.leaf (SV.agg [SV.list Ty.str h.ls, I64 h.ba, I64 h.ne, I64 h.wi, I64 h.re, I64 h.se])))
         (.leaf (SV.agg [SV.list Ty.str h.ls, I64 h.ba, I64 h.ne, I64 h.wi, I64 h.re, I64 h.se])))))
      (.req (small t && true) (.node (rplB [114, 101, 115, 101, 110, 100] t)
        (.node (decide (rplN [114, 101, 115, 101, 110, 100] t ≥ 1))
         (.node (decide (rplN [114, 101, 115, 101, 110, 100] t < h.ne))
          (.req (decide (h.re ≤ 4398046511104) && decide (-4398046511104 ≤ h.re)) (.leaf (SV.agg [SV.list Ty.str h.ls, I64 (rplN [114, 101, 115, 101, 110, 100] t), I64 (rplN [114, 101, 115, 101, 110, 100] t), I64 h.wi, I64 (moreV h.re), I64 h.se])))
          (.leaf (SV.agg [SV.list Ty.str h.ls, I64 h.ba, I64 h.ne, I64 h.wi, I64 h.re, I64 h.se])))
         (.leaf (SV.agg [SV.list Ty.str h.ls, I64 h.ba, I64 h.ne, I64 h.wi, I64 h.re, I64 h.se])))
        (.leaf (SV.agg [SV.list Ty.str h.ls, I64 h.ba, I64 h.ne, I64 h.wi, I64 h.re, I64 h.se])))))
     (.req (small t && true) (.node (rplB [114, 101, 115, 101, 110, 100] t)
       (.node (decide (rplN [114, 101, 115, 101, 110, 100] t ≥ 1))
        (.node (decide (rplN [114, 101, 115, 101, 110, 100] t < h.ne))
         (.req (decide (h.re ≤ 4398046511104) && decide (-4398046511104 ≤ h.re)) (.leaf (SV.agg [SV.list Ty.str h.ls, I64 (rplN [114, 101, 115, 101, 110, 100] t), I64 (rplN [114, 101, 115, 101, 110, 100] t), I64 h.wi, I64 (moreV h.re), I64 h.se])))
         (.leaf (SV.agg [SV.list Ty.str h.ls, I64 h.ba, I64 h.ne, I64 h.wi, I64 h.re, I64 h.se])))
        (.leaf (SV.agg [SV.list Ty.str h.ls, I64 h.ba, I64 h.ne, I64 h.wi, I64 h.re, I64 h.se])))
       (.leaf (SV.agg [SV.list Ty.str h.ls, I64 h.ba, I64 h.ne, I64 h.wi, I64 h.re, I64 h.se])))))))))
   (by kernel_rfl) (by 
    obtain ⟨hf, hlen⟩ := few_smalls hs
    have hMC := MC_eq
    cases hv : validB h with
    | false => rw [ans_no (.inl hv)]; simp [Tree.holds, hs, ht, hf]; rfl
    | true =>
    cases b with
    | false => rw [ans_no (.inr (.inl rfl))]; simp [Tree.holds, hs, ht, hf]; rfl
    | true =>
    cases ha : aB t with
    | false => rw [ans_no (.inr (.inr ha))]; simp [Tree.holds, hs, ht, hf, ha, rplB]; rfl
    | true =>
    obtain ⟨hw, h0, h1⟩ := aW_or ha
    obtain ⟨hp, hsn⟩ := valid_to hv
    unfold hostP at hp
    have hno : ¬ (validB h = false ∨ true = false ∨ aB t = false) := by rw [hv, ha]; simp
    have hre : (decide (h.re ≤ 4398046511104) && decide (-4398046511104 ≤ h.re)) = true := by simp; omega
    have ewr : ¬ ([114, 101, 115, 101, 110, 100] : List UInt8) = [111, 107] := by decide
    have eor : ¬ ([111, 107] : List UInt8) = [114, 101, 115, 101, 110, 100] := by decide
    rcases hw with hw | hw
    · have k1 : rplB [111, 107] t = true := by unfold rplB; rw [ha, hw]; rfl
      have k2 : rplB [114, 101, 115, 101, 110, 100] t = false := by unfold rplB; rw [ha, hw]; rfl
      have k3 : rplN [111, 107] t = aN t := by unfold rplN; rw [k1, if_pos rfl]
      by_cases hn : aN t ≤ h.ls.length
      · have e : ansV h true t = { h with ba := if h.ba < aN t + 1 then aN t + 1 else h.ba, ne := if h.ne < aN t + 1 then aN t + 1 else h.ne } := by unfold ansV; rw [if_neg hno, if_pos hw, if_pos hn]
        rw [e, k3, wrap64 (x := aN t + 1) (by omega) (by omega)]
        simp only [Tree.holds, hs, ht, k1, k2, hn, decide_true, Bool.not_true, Bool.and_true, Bool.true_and, Bool.false_eq_true, false_implies, true_implies, true_and, and_true, Bool.true_eq_false, decide_eq_true_eq, decide_eq_false_iff_not]
        unfold Ho.sv Ho.cells
        dsimp only
        refine ⟨fun a => ⟨fun b => ?_, fun b => ?_⟩, fun a => ?_⟩
        · rw [if_pos (by omega), if_pos (by omega)]
        · rw [if_pos (by omega), if_neg (by omega)]
        · rw [if_neg (by omega), if_neg (by omega)]
      · have e : ansV h true t = h := by unfold ansV; rw [if_neg hno, if_pos hw, if_neg hn]
        rw [e, k3]
        simp only [Tree.holds, hs, ht, k1, k2, hn, decide_true, decide_false, Bool.not_true, Bool.and_true, Bool.true_and, Bool.false_eq_true, false_implies, true_implies, true_and, and_true, Bool.true_eq_false]
        rfl
    · have k1 : rplB [111, 107] t = false := by unfold rplB; rw [ha, hw]; rfl
      have k2 : rplB [114, 101, 115, 101, 110, 100] t = true := by unfold rplB; rw [ha, hw]; rfl
      have k3 : rplN [114, 101, 115, 101, 110, 100] t = aN t := by unfold rplN; rw [k2, if_pos rfl]
      have hw2 : ¬ aW t = wOk := by rw [hw]; decide
      rw [k3]
      simp only [Tree.holds, hs, ht, k1, k2, hre, decide_true, decide_false, Bool.not_true, Bool.and_true, Bool.true_and, Bool.false_eq_true, false_implies, true_implies, true_and, and_true, Bool.true_eq_false, decide_eq_true_eq, decide_eq_false_iff_not]
      refine ⟨fun a => ⟨fun b => ?_, fun b => ?_⟩, fun a => ?_⟩
      · have e : ansV h true t = { h with ba := aN t, ne := aN t, re := moreV h.re } := by unfold ansV; rw [if_neg hno, if_neg hw2, if_pos ⟨a, b⟩]
        rw [e]; first | rfl | exact ⟨hre, rfl⟩ | exact ⟨by trivial, rfl⟩ | (simp only [hre]; trace_state; rfl)
      · have e : ansV h true t = h := by unfold ansV; rw [if_neg hno, if_neg hw2, if_neg (fun c => b c.2)]
        rw [e]; rfl
      · have e : ansV h true t = h := by unfold ansV; rw [if_neg hno, if_neg hw2, if_neg (fun c => a c.1)]
        rw [e]; rfl) (by kernel_rfl) (by kernel_rfl)
theorem o_ansH : fAnsH.ok Try.prog := factHP_ok fun x k t sp a b => s_Ans x k t sp a b
theorem o_ansHR : fAnsHR.ok Try.prog := factHP_ok fun x k t sp a b => s_AnsR x k t sp a b
theorem s_law7 (h : Ho) (b : Bool) (t : List UInt8) (sp : Bool) (k : Int) : SCall Try.prog 7 [h.sv, .agg [.bool b, .str t, .bool sp], I64 k] (.bool true) :=
  scall_v mix [fFew, fShort, fSta, fStaR, fSnd, fSndR, fAnsH, fAnsHR, fAga, fAgaR, fSame, fAwake] ⟨o_few, o_short, o_sta, o_staR, o_snd, o_sndR, o_ansH, o_ansHR, o_aga, o_agaR, o_same, o_awake, trivial⟩ 1000 (.lit (.lit (.lit (.lit (.fork (.lit (.lit (.lit (.lit (.lit (.lit (.lit (.lit (.lit (.lit (.lit (.lit (.lit (.lit (.lit (.lit (.lit (.lit (.lit (.lit (.lit (.lit (.all))))))))))))))))))))))) (.lit (.lit (.lit (.lit (.lit (.lit (.lit (.lit (.fork (.lit (.lit (.lit (.lit (.lit (.lit (.lit (.lit (.lit (.lit (.lit (.lit (.lit (.all)))))))))))))) (.lit (.lit (.lit (.fork (.lit (.lit (.lit (.lit (.lit (.lit (.lit (.lit (.lit (.all)))))))))) (.lit (.lit (.lit (.lit (.lit (.lit (.lit (.lit (.lit (.lit (.lit (.lit (.lit (.fork (.lit (.all)) (.lit (.all))))))))))))))))))))))))))))))))))
   (t := .req (smallsB (fewL h.ls)) (.req (smallsB (fewL h.ls)) (.req (smallsB (fewL h.ls)) (.req (smallsB (fewL h.ls)) (.req (sameL (staV (fewL h.ls) h.wi).fst.ls (staV (fewL h.ls) h.wi).fst.ls && ((staV (fewL h.ls) h.wi).fst.ba == (staV (fewL h.ls) h.wi).fst.ba && ((staV (fewL h.ls) h.wi).fst.ne == (staV (fewL h.ls) h.wi).fst.ne && ((staV (fewL h.ls) h.wi).fst.wi == (staV (fewL h.ls) h.wi).fst.wi && ((staV (fewL h.ls) h.wi).fst.re == (staV (fewL h.ls) h.wi).fst.re && ((staV (fewL h.ls) h.wi).fst.se == (staV (fewL h.ls) h.wi).fst.se && few2 (staV (fewL h.ls) h.wi).fst.ls.length)))))) (.node ((staV (fewL h.ls) h.wi).snd != (staV (fewL h.ls) h.wi).snd)
      (.leaf (SV.bool false))
      (.req (sameL (sndV (Ho.mk (fewL h.ls) h.ba h.ne h.wi h.re h.se)).ls (sndV (Ho.mk (fewL h.ls) h.ba h.ne h.wi h.re h.se)).ls && ((sndV (Ho.mk (fewL h.ls) h.ba h.ne h.wi h.re h.se)).ba == (sndV (Ho.mk (fewL h.ls) h.ba h.ne h.wi h.re h.se)).ba && ((sndV (Ho.mk (fewL h.ls) h.ba h.ne h.wi h.re h.se)).ne == (sndV (Ho.mk (fewL h.ls) h.ba h.ne h.wi h.re h.se)).ne && ((sndV (Ho.mk (fewL h.ls) h.ba h.ne h.wi h.re h.se)).wi == (sndV (Ho.mk (fewL h.ls) h.ba h.ne h.wi h.re h.se)).wi && ((sndV (Ho.mk (fewL h.ls) h.ba h.ne h.wi h.re h.se)).re == (sndV (Ho.mk (fewL h.ls) h.ba h.ne h.wi h.re h.se)).re && ((sndV (Ho.mk (fewL h.ls) h.ba h.ne h.wi h.re h.se)).se == (sndV (Ho.mk (fewL h.ls) h.ba h.ne h.wi h.re h.se)).se && few2 (sndV (Ho.mk (fewL h.ls) h.ba h.ne h.wi h.re h.se)).ls.length)))))) (.node (!(true && (sndT (Ho.mk (fewL h.ls) h.ba h.ne h.wi h.re h.se) == sndT (Ho.mk (fewL h.ls) h.ba h.ne h.wi h.re h.se) && true)))
        (.leaf (SV.bool false))
        (.node (!sndB (Ho.mk (fewL h.ls) h.ba h.ne h.wi h.re h.se) == sndB (Ho.mk (fewL h.ls) h.ba h.ne h.wi h.re h.se))
         (.leaf (SV.bool false))
         (.req (smallsB (fewL h.ls) && small (List.take 120 t)) (.req (smallsB (fewL h.ls) && small (List.take 120 t)) (.req (sameL (ansV (Ho.mk (fewL h.ls) h.ba h.ne h.wi h.re h.se) b (List.take 120 t)).ls (ansV (Ho.mk (fewL h.ls) h.ba h.ne h.wi h.re h.se) b (List.take 120 t)).ls && ((ansV (Ho.mk (fewL h.ls) h.ba h.ne h.wi h.re h.se) b (List.take 120 t)).ba == (ansV (Ho.mk (fewL h.ls) h.ba h.ne h.wi h.re h.se) b (List.take 120 t)).ba && ((ansV (Ho.mk (fewL h.ls) h.ba h.ne h.wi h.re h.se) b (List.take 120 t)).ne == (ansV (Ho.mk (fewL h.ls) h.ba h.ne h.wi h.re h.se) b (List.take 120 t)).ne && ((ansV (Ho.mk (fewL h.ls) h.ba h.ne h.wi h.re h.se) b (List.take 120 t)).wi == (ansV (Ho.mk (fewL h.ls) h.ba h.ne h.wi h.re h.se) b (List.take 120 t)).wi && ((ansV (Ho.mk (fewL h.ls) h.ba h.ne h.wi h.re h.se) b (List.take 120 t)).re == (ansV (Ho.mk (fewL h.ls) h.ba h.ne h.wi h.re h.se) b (List.take 120 t)).re && ((ansV (Ho.mk (fewL h.ls) h.ba h.ne h.wi h.re h.se) b (List.take 120 t)).se == (ansV (Ho.mk (fewL h.ls) h.ba h.ne h.wi h.re h.se) b (List.take 120 t)).se && few2 (ansV (Ho.mk (fewL h.ls) h.ba h.ne h.wi h.re h.se) b (List.take 120 t)).ls.length)))))) (.req (smallsB (fewL h.ls)) (.req (smallsB (fewL h.ls)) (.req (sameL (agaV (Ho.mk (fewL h.ls) h.ba h.ne h.wi h.re h.se) k).fst.ls (agaV (Ho.mk (fewL h.ls) h.ba h.ne h.wi h.re h.se) k).fst.ls && ((agaV (Ho.mk (fewL h.ls) h.ba h.ne h.wi h.re h.se) k).fst.ba == (agaV (Ho.mk (fewL h.ls) h.ba h.ne h.wi h.re h.se) k).fst.ba && ((agaV (Ho.mk (fewL h.ls) h.ba h.ne h.wi h.re h.se) k).fst.ne == (agaV (Ho.mk (fewL h.ls) h.ba h.ne h.wi h.re h.se) k).fst.ne && ((agaV (Ho.mk (fewL h.ls) h.ba h.ne h.wi h.re h.se) k).fst.wi == (agaV (Ho.mk (fewL h.ls) h.ba h.ne h.wi h.re h.se) k).fst.wi && ((agaV (Ho.mk (fewL h.ls) h.ba h.ne h.wi h.re h.se) k).fst.re == (agaV (Ho.mk (fewL h.ls) h.ba h.ne h.wi h.re h.se) k).fst.re && ((agaV (Ho.mk (fewL h.ls) h.ba h.ne h.wi h.re h.se) k).fst.se == (agaV (Ho.mk (fewL h.ls) h.ba h.ne h.wi h.re h.se) k).fst.se && few2 (agaV (Ho.mk (fewL h.ls) h.ba h.ne h.wi h.re h.se) k).fst.ls.length)))))) (.node ((agaV (Ho.mk (fewL h.ls) h.ba h.ne h.wi h.re h.se) k).snd == (agaV (Ho.mk (fewL h.ls) h.ba h.ne h.wi h.re h.se) k).snd)
                (.leaf (SV.bool true))
                (.leaf (SV.bool false))))))))))))))))))
   (by kernel_rfl) (by 
    have hs := fewL_smalls h.ls
    have ht := small_take t
    have sL : ∀ l, sameL l l = true := fun l => by simp [sameL]
    have f0 : few2 (fewL h.ls).length = true := (few_smalls hs).1
    have f00 : few2 ([] : List (List UInt8)).length = true := by decide
    have f1 : few2 (staV (fewL h.ls) h.wi).1.ls.length = true := by rcases sta_ls (fewL h.ls) h.wi with e | e <;> rw [e] <;> assumption
    have f2 : few2 (sndV (Ho.mk (fewL h.ls) h.ba h.ne h.wi h.re h.se)).ls.length = true := by rw [snd_ls]; exact f0
    have f3 : few2 (ansV (Ho.mk (fewL h.ls) h.ba h.ne h.wi h.re h.se) b (List.take 120 t)).ls.length = true := by rw [ans_ls]; exact f0
    have f4 : few2 (agaV (Ho.mk (fewL h.ls) h.ba h.ne h.wi h.re h.se) k).1.ls.length = true := by rcases aga_ls (Ho.mk (fewL h.ls) h.ba h.ne h.wi h.re h.se) k with e | e <;> rw [e] <;> assumption
    simp only [Tree.holds, hs, ht, sL, f1, f2, f3, f4, beq_self_eq_true, bne_self_eq_false, Bool.not_true, Bool.and_true, Bool.true_and, Bool.false_eq_true, false_implies, true_implies, true_and, and_true, Bool.true_eq_false]) (by kernel_rfl) (by kernel_rfl)
end Go.Proofs.Ytibpodgdondakaa
