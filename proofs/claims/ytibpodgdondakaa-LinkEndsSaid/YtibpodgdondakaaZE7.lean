/-
  GR: Answer, and the law on hosts. Written by gen.py.
  SX 24: functions that turn a row of their caller: what they leave, and how such a fact is said.
  GW: slices.Delete, of one packet, out of a row of its caller's: the walk, and the fact.
  GT: a text that is sealed and of which one byte is changed is not accepted.
  SX 25: a state says no less than a weaker one: a nil slice is a row without room; a row that is written no more is data.
  GN: packets in transit, in plain words.
  GQ: the segments of packets in transit. Written by gen.py.
  GX: contracts of packets in transit.
  H0: the wire, in plain words: the cells of a wire, moves.
  H2: the wire in plain words: what holds of host, device and packets, whatever happens.
-/
import Derived.Test.YtibpodgdondakaaZE6
import Derived.Test.YtibpodgdondakaaZE5
import Derived.Laws.IdiomCopy
import Derived.Tactics
import Derived.Shelf.RegionOpenPlain
import Derived.WalkKit
import Derived.Deep.LoopGhost
import Derived.Deep.RegionLaw
import Derived.Lib.Walk
import Derived.Lib.SliceRun
set_option linter.unusedSimpArgs false
set_option linter.unusedVariables false
set_option maxRecDepth 100000
namespace Go.Proofs.Ytibpodgdondakaa
open Go.Sx
theorem s_Ans (h : Ho) (b : Bool) (t : List UInt8) (sp : Bool)(hs : smallsB h.ls = true) (ht : small t = true) : SCall Try.prog 28 [h.sv, .agg [.bool b, .str t, .bool sp]] ((ansV h b t).sv) :=
  scall_v mix [fVal, fClo, fAns] ⟨o_val, o_clo, o_ans, trivial⟩ 1000 (.fork (.lit (.lit (.lit (.lit (.lit (.lit (.lit (.all)))))))) (.lit (.lit (.lit (.fork (.lit (.lit (.lit (.all)))) (.lit (.lit (.fork (.all) (.fork (.lit (.lit (.lit (.lit (.lit (.fork (.all) (.fork (.lit (.lit (.fork (.lit (.lit (.lit (.lit (.fork (.all) (.all)))))) (.lit (.lit (.lit (.lit (.lit (.all))))))))) (.lit (.lit (.lit (.lit (.lit (.lit (.lit (.lit (.all)))))))))))))))) (.lit (.lit (.lit (.lit (.lit (.lit (.fork (.lit (.lit (.fork (.lit (.lit (.lit (.lit (.fork (.all) (.all)))))) (.lit (.lit (.lit (.lit (.lit (.all))))))))) (.lit (.lit (.lit (.lit (.lit (.lit (.lit (.lit (.all)))))))))))))))))))))))))
   (t := .req (few2 h.ls.length) (.req (small t) (.req (smallsB h.ls) (.node (!validB h)
    (.leaf (SV.agg [SV.list Ty.str h.ls, I64 h.ba, I64 h.ne, I64 h.wi, I64 h.re, I64 h.se]))
    (.node (!b)
     (.leaf (SV.agg [SV.list Ty.str h.ls, I64 h.ba, I64 h.ne, I64 h.wi, I64 h.re, I64 h.se]))
     (.node (!aB t)
      (.leaf (SV.agg [SV.list Ty.str h.ls, I64 h.ba, I64 h.ne, I64 h.wi, I64 h.re, I64 h.se]))
      (.node (aW t == [111, 107])
       (.node (decide (aN t ≤ (↑h.ls.length : Int)))
        (.leaf (SV.agg [SV.list Ty.str h.ls, I64 (if IntKind.i64.wrap (aN t + 1) > h.ba then IntKind.i64.wrap (aN t + 1) else h.ba), I64 (if (if IntKind.i64.wrap (aN t + 1) > h.ba then IntKind.i64.wrap (aN t + 1) else h.ba) > h.ne then if IntKind.i64.wrap (aN t + 1) > h.ba then IntKind.i64.wrap (aN t + 1) else h.ba else h.ne), I64 h.wi, I64 h.re, I64 h.se]))
        (.node (aW t == [114, 101, 115, 101, 110, 100])
         (.node (decide (aN t ≥ 1))
          (.node (decide (aN t < h.ne))
           (.leaf (SV.agg [SV.list Ty.str h.ls, I64 (aN t), I64 (aN t), I64 h.wi, I64 (if MC < IntKind.i64.wrap (h.re + 1) then MC else IntKind.i64.wrap (h.re + 1)), I64 h.se]))
           (.leaf (SV.agg [SV.list Ty.str h.ls, I64 h.ba, I64 h.ne, I64 h.wi, I64 h.re, I64 h.se])))
          (.leaf (SV.agg [SV.list Ty.str h.ls, I64 h.ba, I64 h.ne, I64 h.wi, I64 h.re, I64 h.se])))
         (.leaf (SV.agg [SV.list Ty.str h.ls, I64 h.ba, I64 h.ne, I64 h.wi, I64 h.re, I64 h.se]))))
       (.node (aW t == [114, 101, 115, 101, 110, 100])
        (.node (decide (aN t ≥ 1))
         (.node (decide (aN t < h.ne))
          (.leaf (SV.agg [SV.list Ty.str h.ls, I64 (aN t), I64 (aN t), I64 h.wi, I64 (if MC < IntKind.i64.wrap (h.re + 1) then MC else IntKind.i64.wrap (h.re + 1)), I64 h.se]))
          (.leaf (SV.agg [SV.list Ty.str h.ls, I64 h.ba, I64 h.ne, I64 h.wi, I64 h.re, I64 h.se])))
         (.leaf (SV.agg [SV.list Ty.str h.ls, I64 h.ba, I64 h.ne, I64 h.wi, I64 h.re, I64 h.se])))
        (.leaf (SV.agg [SV.list Ty.str h.ls, I64 h.ba, I64 h.ne, I64 h.wi, I64 h.re, I64 h.se]))))))))))
   (by kernel_rfl) (by 
    obtain ⟨hf, hlen⟩ := few_smalls hs
    have hMC := MC_eq
    cases hv : validB h with
    | false => rw [ans_no (.inl hv)]; simp [Tree.holds, hs, ht, hf]; rfl
    | true =>
    cases b with
    | false => rw [ans_no (.inr (.inl rfl))]; simp [Tree.holds, hs, ht, hf]; rfl
    | true =>
    cases ha : aB t with
    | false => rw [ans_no (.inr (.inr ha))]; simp [Tree.holds, hs, ht, hf, ha, rplB]; rfl
    | true =>
    obtain ⟨hw, h0, h1⟩ := aW_or ha
    obtain ⟨hp, hsn⟩ := valid_to hv
    unfold hostP at hp
    have hno : ¬ (validB h = false ∨ true = false ∨ aB t = false) := by rw [hv, ha]; simp
    have hm : (if MC < IntKind.i64.wrap (h.re + 1) then MC else IntKind.i64.wrap (h.re + 1)) = moreV h.re := by
      rw [wrap64 (by omega) (by omega)]; unfold moreV; split <;> split <;> omega
    have ewr : ¬ ([114, 101, 115, 101, 110, 100] : List UInt8) = [111, 107] := by decide
    have eor : ¬ ([111, 107] : List UInt8) = [114, 101, 115, 101, 110, 100] := by decide
    rcases hw with hw | hw
    · have hw' : aW t = [111, 107] := hw
      by_cases hn : aN t ≤ h.ls.length
      · have e : ansV h true t = { h with ba := if h.ba < aN t + 1 then aN t + 1 else h.ba, ne := if h.ne < aN t + 1 then aN t + 1 else h.ne } := by unfold ansV; rw [if_neg hno, if_pos hw, if_pos hn]
        rw [e]
        simp only [Tree.holds, hs, ht, hf, hw', hn, beq_self_eq_true, decide_true, Bool.not_true, Bool.not_false, Bool.false_eq_true, false_implies, true_implies, true_and, and_true, Bool.true_eq_false]
        rw [wrap64 (x := aN t + 1) (by omega) (by omega)]
        unfold Ho.sv Ho.cells
        dsimp only
        have e1 : (if aN t + 1 > h.ba then aN t + 1 else h.ba) = (if h.ba < aN t + 1 then aN t + 1 else h.ba) := rfl
        have e2 : (if (if aN t + 1 > h.ba then aN t + 1 else h.ba) > h.ne then if aN t + 1 > h.ba then aN t + 1 else h.ba else h.ne) = (if h.ne < aN t + 1 then aN t + 1 else h.ne) := by (repeat' split) <;> omega
        rw [e2]
      · have e : ansV h true t = h := by unfold ansV; rw [if_neg hno, if_pos hw, if_neg hn]
        rw [e]
        simp only [Tree.holds, hs, ht, hf, hw', hn, eor, beq_self_eq_true, decide_true, decide_false, Bool.not_true, Bool.not_false, Bool.false_eq_true, false_implies, true_implies, true_and, and_true, Bool.true_eq_false, beq_eq_false_iff_ne, beq_iff_eq, ne_eq, not_false_eq_true, not_true_eq_false]
        rfl
    · have hw' : aW t = [114, 101, 115, 101, 110, 100] := hw
      have hw2 : ¬ aW t = wOk := by rw [hw]; decide
      by_cases hn : 1 ≤ aN t ∧ aN t < h.ne
      · have e : ansV h true t = { h with ba := aN t, ne := aN t, re := moreV h.re } := by unfold ansV; rw [if_neg hno, if_neg hw2, if_pos hn]
        rw [e]
        simp only [Tree.holds, hs, ht, hf, hw', hn.1, hn.2, ge_iff_le, ewr, beq_self_eq_true, decide_true, decide_false, Bool.not_true, Bool.not_false, Bool.false_eq_true, false_implies, true_implies, true_and, and_true, Bool.true_eq_false, beq_eq_false_iff_ne, beq_iff_eq, ne_eq, not_false_eq_true, not_true_eq_false, hm]
        rfl
      · have e : ansV h true t = h := by unfold ansV; rw [if_neg hno, if_neg hw2, if_neg hn]
        rw [e]
        simp only [Tree.holds, hs, ht, hf, hw', ge_iff_le, ewr, beq_self_eq_true, decide_true, decide_false, Bool.not_true, Bool.not_false, Bool.false_eq_true, false_implies, true_implies, true_and, and_true, Bool.true_eq_false, beq_eq_false_iff_ne, beq_iff_eq, ne_eq, not_false_eq_true, not_true_eq_false, decide_eq_true_eq, decide_eq_false_iff_not]
        exact ⟨fun c => ⟨fun d => absurd ⟨c, d⟩ hn, fun _ => rfl⟩, fun _ => rfl⟩) (by kernel_rfl) (by kernel_rfl)
theorem s_AnsR (h : Ho) (b : Bool) (t : List UInt8) (sp : Bool)(hs : smallsB h.ls = true) (ht : small t = true) : SCall Try.prog 33 [h.sv, .agg [.bool b, .str t, .bool sp]] ((ansV h b t).sv) :=
  scall_v mix [fValR, fRpl, fMore] ⟨o_valR, o_rpl, o_more, trivial⟩ 1000 (.fork (.lit (.lit (.lit (.lit (.all))))) (.lit (.lit (.lit (.fork (.all) (.fork (.lit (.lit (.lit (.lit (.lit (.fork (.lit (.lit (.lit (.lit (.lit (.fork (.fork (.fork (.lit (.lit (.fork (.lit (.lit (.lit (.lit (.fork (.all) (.all)))))) (.lit (.lit (.lit (.lit (.lit (.all))))))))) (.lit (.lit (.lit (.lit (.lit (.lit (.lit (.lit (.all)))))))))) (.fork (.lit (.lit (.fork (.lit (.lit (.lit (.lit (.fork (.all) (.all)))))) (.lit (.lit (.lit (.lit (.lit (.all))))))))) (.lit (.lit (.lit (.lit (.lit (.lit (.lit (.lit (.all))))))))))) (.fork (.lit (.lit (.fork (.lit (.lit (.lit (.lit (.fork (.all) (.all)))))) (.lit (.lit (.lit (.lit (.lit (.all))))))))) (.lit (.lit (.lit (.lit (.lit (.lit (.lit (.lit (.all)))))))))))))))) (.lit (.lit (.lit (.lit (.lit (.lit (.fork (.lit (.lit (.fork (.lit (.lit (.lit (.lit (.fork (.all) (.all)))))) (.lit (.lit (.lit (.lit (.lit (.all))))))))) (.lit (.lit (.lit (.lit (.lit (.lit (.lit (.lit (.all)))))))))))))))))))))) (.lit (.lit (.lit (.lit (.lit (.lit (.lit (.lit (.lit (.lit (.lit (.lit (.fork (.lit (.lit (.fork (.lit (.lit (.lit (.lit (.fork (.all) (.all)))))) (.lit (.lit (.lit (.lit (.lit (.all))))))))) (.lit (.lit (.lit (.lit (.lit (.lit (.lit (.lit (.all))))))))))))))))))))))))))))
   (t := .req (smallsB h.ls) (.node (!validB h)
  (.leaf (SV.agg [SV.list Ty.str h.ls, I64 h.ba, I64 h.ne, I64 h.wi, I64 h.re, I64 h.se]))
  (.node (!b)
   (.leaf (SV.agg [SV.list Ty.str h.ls, I64 h.ba, I64 h.ne, I64 h.wi, I64 h.re, I64 h.se]))
   (.req (small t && true) (.node (rplB [111, 107] t)
     (.node (decide (rplN [111, 107] t ≤ (↑h.ls.length : Int)))
      (.node (decide (IntKind.i64.wrap (rplN [111, 107] t + 1) > h.ba))
       (.node (decide (h.ne < IntKind.i64.wrap (rplN [111, 107] t + 1)))
        (.req (small t && true) (.node (rplB [114, 101, 115, 101, 110, 100] t)
          (.node (decide (rplN [114, 101, 115, 101, 110, 100] t ≥ 1))
           (.node (decide (rplN [114, 101, 115, 101, 110, 100] t < IntKind.i64.wrap (rplN [111, 107] t + 1)))
            (.req (decide (h.re ≤ 4398046511104) && decide (-4398046511104 ≤ h.re)) (.leaf (SV.agg [SV.list Ty.str h.ls, I64 (rplN [114, 101, 115, 101, 110, 100] t), I64 (rplN [114, 101, 115, 101, 110, 100] t), I64 h.wi, I64 (moreV h.re), I64 h.se])))
            (.leaf (SV.agg [SV.list Ty.str h.ls, I64 (IntKind.i64.wrap (rplN [111, 107] t + 1)), I64 (IntKind.i64.wrap (rplN [111, 107] t + 1)), I64 h.wi, I64 h.re, I64 h.se])))
           (.leaf (SV.agg [SV.list Ty.str h.ls, I64 (IntKind.i64.wrap (rplN [111, 107] t + 1)), I64 (IntKind.i64.wrap (rplN [111, 107] t + 1)), I64 h.wi, I64 h.re, I64 h.se])))
          (.leaf (SV.agg [SV.list Ty.str h.ls, I64 (IntKind.i64.wrap (rplN [111, 107] t + 1)), I64 (IntKind.i64.wrap (rplN [111, 107] t + 1)), I64 h.wi, I64 h.re, I64 h.se]))))
        (.req (small t && true) (.node (rplB [114, 101, 115, 101, 110, 100] t)
          (.node (decide (rplN [114, 101, 115, 101, 110, 100] t ≥ 1))
           (.node (decide (rplN [114, 101, 115, 101, 110, 100] t < h.ne))
            (.req (decide (h.re ≤ 4398046511104) && decide (-4398046511104 ≤ h.re)) (.leaf (SV.agg [SV.list Ty.str h.ls, I64 (rplN [114, 101, 115, 101, 110, 100] t), I64 (rplN [114, 101, 115, 101, 110, 100] t), I64 h.wi, I64 (moreV h.re), I64 h.se])))
            (.leaf (SV.agg [SV.list Ty.str h.ls, I64 (IntKind.i64.wrap (rplN [111, 107] t + 1)), I64 h.ne, I64 h.wi, I64 h.re, I64 h.se])))
           (.leaf (SV.agg [SV.list Ty.str h.ls, I64 (IntKind.i64.wrap (rplN [111, 107] t + 1)), I64 h.ne, I64 h.wi, I64 h.re, I64 h.se])))
          (.leaf (SV.agg [SV.list Ty.str h.ls, I64 (IntKind.i64.wrap (rplN [111, 107] t + 1)), I64 h.ne, I64 h.wi, I64 h.re, I64 h.se])))))
       (.req (small t && true) (.node (rplB [114, 101, 115, 101, 110, 100] t)
         (.node (decide (rplN [114, 101, 115, 101, 110, 100] t ≥ 1))
          (.node (decide (rplN [114, 101, 115, 101, 110, 100] t < h.ne))
           (.req (decide (h.re ≤ 4398046511104) && decide (-4398046511104 ≤ h.re)) (.leaf (SV.agg [SV.list Ty.str h.ls, I64 (rplN [114, 101, 115, 101, 110, 100] t), I64 (rplN [114, 101, 115, 101, 110, 100] t), I64 h.wi, I64 (moreV h.re), I64 h.se])))
           (.leaf (SV.agg [SV.list Ty.str h.ls, I64 h.ba, I64 h.ne, I64 h.wi, I64 h.re, I64 h.se])))
          (.leaf (SV.agg [SV.list Ty.str h.ls, I64 h.ba, I64 h.ne, I64 h.wi, I64 h.re, I64 h.se])))
         (.leaf (SV.agg [SV.list Ty.str h.ls, I64 h.ba, I64 h.ne, I64 h.wi, I64 h.re, I64 h.se])))))
      (.req (small t && true) (.node (rplB [114, 101, 115, 101, 110, 100] t)
        (.node (decide (rplN [114, 101, 115, 101, 110, 100] t ≥ 1))
         (.node (decide (rplN [114, 101, 115, 101, 110, 100] t < h.ne))
          (.req (decide (h.re ≤ 4398046511104) && decide (-4398046511104 ≤ h.re)) (.leaf (SV.agg [SV.list Ty.str h.ls, I64 (rplN [114, 101, 115, 101, 110, 100] t), I64 (rplN [114, 101, 115, 101, 110, 100] t), I64 h.wi, I64 (moreV h.re), I64 h.se])))
          (.leaf (SV.agg [SV.list Ty.str h.ls, I64 h.ba, I64 h.ne, I64 h.wi, I64 h.re, I64 h.se])))
         (.leaf (SV.agg [SV.list Ty.str h.ls, I64 h.ba, I64 h.ne, I64 h.wi, I64 h.re, I64 h.se])))
        (.leaf (SV.agg [SV.list Ty.str h.ls, I64 h.ba, I64 h.ne, I64 h.wi, I64 h.re, I64 h.se])))))
     (.req (small t && true) (.node (rplB [114, 101, 115, 101, 110, 100] t)
       (.node (decide (rplN [114, 101, 115, 101, 110, 100] t ≥ 1))
        (.node (decide (rplN [114, 101, 115, 101, 110, 100] t < h.ne))
         (.req (decide (h.re ≤ 4398046511104) && decide (-4398046511104 ≤ h.re)) (.leaf (SV.agg [SV.list Ty.str h.ls, I64 (rplN [114, 101, 115, 101, 110, 100] t), I64 (rplN [114, 101, 115, 101, 110, 100] t), I64 h.wi, I64 (moreV h.re), I64 h.se])))
         (.leaf (SV.agg [SV.list Ty.str h.ls, I64 h.ba, I64 h.ne, I64 h.wi, I64 h.re, I64 h.se])))
        (.leaf (SV.agg [SV.list Ty.str h.ls, I64 h.ba, I64 h.ne, I64 h.wi, I64 h.re, I64 h.se])))
       (.leaf (SV.agg [SV.list Ty.str h.ls, I64 h.ba, I64 h.ne, I64 h.wi, I64 h.re, I64 h.se])))))))))
   (by kernel_rfl) (by 
    obtain ⟨hf, hlen⟩ := few_smalls hs
    have hMC := MC_eq
    cases hv : validB h with
    | false => rw [ans_no (.inl hv)]; simp [Tree.holds, hs, ht, hf]; rfl
    | true =>
    cases b with
    | false => rw [ans_no (.inr (.inl rfl))]; simp [Tree.holds, hs, ht, hf]; rfl
    | true =>
    cases ha : aB t with
    | false => rw [ans_no (.inr (.inr ha))]; simp [Tree.holds, hs, ht, hf, ha, rplB]; rfl
    | true =>
    obtain ⟨hw, h0, h1⟩ := aW_or ha
    obtain ⟨hp, hsn⟩ := valid_to hv
    unfold hostP at hp
    have hno : ¬ (validB h = false ∨ true = false ∨ aB t = false) := by rw [hv, ha]; simp
    have hre : (decide (h.re ≤ 4398046511104) && decide (-4398046511104 ≤ h.re)) = true := by simp; omega
    have ewr : ¬ ([114, 101, 115, 101, 110, 100] : List UInt8) = [111, 107] := by decide
    have eor : ¬ ([111, 107] : List UInt8) = [114, 101, 115, 101, 110, 100] := by decide
    rcases hw with hw | hw
    · have k1 : rplB [111, 107] t = true := by unfold rplB; rw [ha, hw]; rfl
      have k2 : rplB [114, 101, 115, 101, 110, 100] t = false := by unfold rplB; rw [ha, hw]; rfl
      have k3 : rplN [111, 107] t = aN t := by unfold rplN; rw [k1, if_pos rfl]
      by_cases hn : aN t ≤ h.ls.length
      · have e : ansV h true t = { h with ba := if h.ba < aN t + 1 then aN t + 1 else h.ba, ne := if h.ne < aN t + 1 then aN t + 1 else h.ne } := by unfold ansV; rw [if_neg hno, if_pos hw, if_pos hn]
        rw [e, k3, wrap64 (x := aN t + 1) (by omega) (by omega)]
        simp only [Tree.holds, hs, ht, k1, k2, hn, decide_true, Bool.not_true, Bool.and_true, Bool.true_and, Bool.false_eq_true, false_implies, true_implies, true_and, and_true, Bool.true_eq_false, decide_eq_true_eq, decide_eq_false_iff_not]
        unfold Ho.sv Ho.cells
        dsimp only
        refine ⟨fun a => ⟨fun b => ?_, fun b => ?_⟩, fun a => ?_⟩
        · rw [if_pos (by omega), if_pos (by omega)]
        · rw [if_pos (by omega), if_neg (by omega)]
        · rw [if_neg (by omega), if_neg (by omega)]
      · have e : ansV h true t = h := by unfold ansV; rw [if_neg hno, if_pos hw, if_neg hn]
        rw [e, k3]
        simp only [Tree.holds, hs, ht, k1, k2, hn, decide_true, decide_false, Bool.not_true, Bool.and_true, Bool.true_and, Bool.false_eq_true, false_implies, true_implies, true_and, and_true, Bool.true_eq_false]
        rfl
    · have k1 : rplB [111, 107] t = false := by unfold rplB; rw [ha, hw]; rfl
      have k2 : rplB [114, 101, 115, 101, 110, 100] t = true := by unfold rplB; rw [ha, hw]; rfl
      have k3 : rplN [114, 101, 115, 101, 110, 100] t = aN t := by unfold rplN; rw [k2, if_pos rfl]
      have hw2 : ¬ aW t = wOk := by rw [hw]; decide
      rw [k3]
      simp only [Tree.holds, hs, ht, k1, k2, hre, decide_true, decide_false, Bool.not_true, Bool.and_true, Bool.true_and, Bool.false_eq_true, false_implies, true_implies, true_and, and_true, Bool.true_eq_false, decide_eq_true_eq, decide_eq_false_iff_not]
      refine ⟨fun a => ⟨fun b => ?_, fun b => ?_⟩, fun a => ?_⟩
      · have e : ansV h true t = { h with ba := aN t, ne := aN t, re := moreV h.re } := by unfold ansV; rw [if_neg hno, if_neg hw2, if_pos ⟨a, b⟩]
        rw [e]; first | rfl | exact ⟨hre, rfl⟩ | exact ⟨by trivial, rfl⟩ | (simp only [hre]; trace_state; rfl)
      · have e : ansV h true t = h := by unfold ansV; rw [if_neg hno, if_neg hw2, if_neg (fun c => b c.2)]
        rw [e]; rfl
      · have e : ansV h true t = h := by unfold ansV; rw [if_neg hno, if_neg hw2, if_neg (fun c => a c.1)]
        rw [e]; rfl) (by kernel_rfl) (by kernel_rfl)
theorem o_ansH : fAnsH.ok Try.prog := factHP_ok fun x k t sp a b => s_Ans x k t sp a b
theorem o_ansHR : fAnsHR.ok Try.prog := factHP_ok fun x k t sp a b => s_AnsR x k t sp a b
theorem s_law7 (h : Ho) (b : Bool) (t : List UInt8) (sp : Bool) (k : Int) : SCall Try.prog 7 [h.sv, .agg [.bool b, .str t, .bool sp], I64 k] (.bool true) :=
  scall_v mix [fFew, fShort, fSta, fStaR, fSnd, fSndR, fAnsH, fAnsHR, fAga, fAgaR, fSame, fAwake] ⟨o_few, o_short, o_sta, o_staR, o_snd, o_sndR, o_ansH, o_ansHR, o_aga, o_agaR, o_same, o_awake, trivial⟩ 1000 (.lit (.lit (.lit (.lit (.fork (.lit (.lit (.lit (.lit (.lit (.lit (.lit (.lit (.lit (.lit (.lit (.lit (.lit (.lit (.lit (.lit (.lit (.lit (.lit (.lit (.lit (.lit (.all))))))))))))))))))))))) (.lit (.lit (.lit (.lit (.lit (.lit (.lit (.lit (.fork (.lit (.lit (.lit (.lit (.lit (.lit (.lit (.lit (.lit (.lit (.lit (.lit (.lit (.all)))))))))))))) (.lit (.lit (.lit (.fork (.lit (.lit (.lit (.lit (.lit (.lit (.lit (.lit (.lit (.all)))))))))) (.lit (.lit (.lit (.lit (.lit (.lit (.lit (.lit (.lit (.lit (.lit (.lit (.lit (.fork (.lit (.all)) (.lit (.all))))))))))))))))))))))))))))))))))
   (t := .req (smallsB (fewL h.ls)) (.req (smallsB (fewL h.ls)) (.req (smallsB (fewL h.ls)) (.req (smallsB (fewL h.ls)) (.req (sameL (staV (fewL h.ls) h.wi).fst.ls (staV (fewL h.ls) h.wi).fst.ls && ((staV (fewL h.ls) h.wi).fst.ba == (staV (fewL h.ls) h.wi).fst.ba && ((staV (fewL h.ls) h.wi).fst.ne == (staV (fewL h.ls) h.wi).fst.ne && ((staV (fewL h.ls) h.wi).fst.wi == (staV (fewL h.ls) h.wi).fst.wi && ((staV (fewL h.ls) h.wi).fst.re == (staV (fewL h.ls) h.wi).fst.re && ((staV (fewL h.ls) h.wi).fst.se == (staV (fewL h.ls) h.wi).fst.se && few2 (staV (fewL h.ls) h.wi).fst.ls.length)))))) (.node ((staV (fewL h.ls) h.wi).snd != (staV (fewL h.ls) h.wi).snd)
      (.leaf (SV.bool false))
      (.req (sameL (sndV (Ho.mk (fewL h.ls) h.ba h.ne h.wi h.re h.se)).ls (sndV (Ho.mk (fewL h.ls) h.ba h.ne h.wi h.re h.se)).ls && ((sndV (Ho.mk (fewL h.ls) h.ba h.ne h.wi h.re h.se)).ba == (sndV (Ho.mk (fewL h.ls) h.ba h.ne h.wi h.re h.se)).ba && ((sndV (Ho.mk (fewL h.ls) h.ba h.ne h.wi h.re h.se)).ne == (sndV (Ho.mk (fewL h.ls) h.ba h.ne h.wi h.re h.se)).ne && ((sndV (Ho.mk (fewL h.ls) h.ba h.ne h.wi h.re h.se)).wi == (sndV (Ho.mk (fewL h.ls) h.ba h.ne h.wi h.re h.se)).wi && ((sndV (Ho.mk (fewL h.ls) h.ba h.ne h.wi h.re h.se)).re == (sndV (Ho.mk (fewL h.ls) h.ba h.ne h.wi h.re h.se)).re && ((sndV (Ho.mk (fewL h.ls) h.ba h.ne h.wi h.re h.se)).se == (sndV (Ho.mk (fewL h.ls) h.ba h.ne h.wi h.re h.se)).se && few2 (sndV (Ho.mk (fewL h.ls) h.ba h.ne h.wi h.re h.se)).ls.length)))))) (.node (!(true && (sndT (Ho.mk (fewL h.ls) h.ba h.ne h.wi h.re h.se) == sndT (Ho.mk (fewL h.ls) h.ba h.ne h.wi h.re h.se) && true)))
        (.leaf (SV.bool false))
        (.node (!sndB (Ho.mk (fewL h.ls) h.ba h.ne h.wi h.re h.se) == sndB (Ho.mk (fewL h.ls) h.ba h.ne h.wi h.re h.se))
         (.leaf (SV.bool false))
         (.req (smallsB (fewL h.ls) && small (List.take 120 t)) (.req (smallsB (fewL h.ls) && small (List.take 120 t)) (.req (sameL (ansV (Ho.mk (fewL h.ls) h.ba h.ne h.wi h.re h.se) b (List.take 120 t)).ls (ansV (Ho.mk (fewL h.ls) h.ba h.ne h.wi h.re h.se) b (List.take 120 t)).ls && ((ansV (Ho.mk (fewL h.ls) h.ba h.ne h.wi h.re h.se) b (List.take 120 t)).ba == (ansV (Ho.mk (fewL h.ls) h.ba h.ne h.wi h.re h.se) b (List.take 120 t)).ba && ((ansV (Ho.mk (fewL h.ls) h.ba h.ne h.wi h.re h.se) b (List.take 120 t)).ne == (ansV (Ho.mk (fewL h.ls) h.ba h.ne h.wi h.re h.se) b (List.take 120 t)).ne && ((ansV (Ho.mk (fewL h.ls) h.ba h.ne h.wi h.re h.se) b (List.take 120 t)).wi == (ansV (Ho.mk (fewL h.ls) h.ba h.ne h.wi h.re h.se) b (List.take 120 t)).wi && ((ansV (Ho.mk (fewL h.ls) h.ba h.ne h.wi h.re h.se) b (List.take 120 t)).re == (ansV (Ho.mk (fewL h.ls) h.ba h.ne h.wi h.re h.se) b (List.take 120 t)).re && ((ansV (Ho.mk (fewL h.ls) h.ba h.ne h.wi h.re h.se) b (List.take 120 t)).se == (ansV (Ho.mk (fewL h.ls) h.ba h.ne h.wi h.re h.se) b (List.take 120 t)).se && few2 (ansV (Ho.mk (fewL h.ls) h.ba h.ne h.wi h.re h.se) b (List.take 120 t)).ls.length)))))) (.req (smallsB (fewL h.ls)) (.req (smallsB (fewL h.ls)) (.req (sameL (agaV (Ho.mk (fewL h.ls) h.ba h.ne h.wi h.re h.se) k).fst.ls (agaV (Ho.mk (fewL h.ls) h.ba h.ne h.wi h.re h.se) k).fst.ls && ((agaV (Ho.mk (fewL h.ls) h.ba h.ne h.wi h.re h.se) k).fst.ba == (agaV (Ho.mk (fewL h.ls) h.ba h.ne h.wi h.re h.se) k).fst.ba && ((agaV (Ho.mk (fewL h.ls) h.ba h.ne h.wi h.re h.se) k).fst.ne == (agaV (Ho.mk (fewL h.ls) h.ba h.ne h.wi h.re h.se) k).fst.ne && ((agaV (Ho.mk (fewL h.ls) h.ba h.ne h.wi h.re h.se) k).fst.wi == (agaV (Ho.mk (fewL h.ls) h.ba h.ne h.wi h.re h.se) k).fst.wi && ((agaV (Ho.mk (fewL h.ls) h.ba h.ne h.wi h.re h.se) k).fst.re == (agaV (Ho.mk (fewL h.ls) h.ba h.ne h.wi h.re h.se) k).fst.re && ((agaV (Ho.mk (fewL h.ls) h.ba h.ne h.wi h.re h.se) k).fst.se == (agaV (Ho.mk (fewL h.ls) h.ba h.ne h.wi h.re h.se) k).fst.se && few2 (agaV (Ho.mk (fewL h.ls) h.ba h.ne h.wi h.re h.se) k).fst.ls.length)))))) (.node ((agaV (Ho.mk (fewL h.ls) h.ba h.ne h.wi h.re h.se) k).snd == (agaV (Ho.mk (fewL h.ls) h.ba h.ne h.wi h.re h.se) k).snd)
                (.leaf (SV.bool true))
                (.leaf (SV.bool false))))))))))))))))))
   (by kernel_rfl) (by 
    have hs := fewL_smalls h.ls
    have ht := small_take t
    have sL : ∀ l, sameL l l = true := fun l => by simp [sameL]
    have f0 : few2 (fewL h.ls).length = true := (few_smalls hs).1
    have f00 : few2 ([] : List (List UInt8)).length = true := by decide
    have f1 : few2 (staV (fewL h.ls) h.wi).1.ls.length = true := by rcases sta_ls (fewL h.ls) h.wi with e | e <;> rw [e] <;> assumption
    have f2 : few2 (sndV (Ho.mk (fewL h.ls) h.ba h.ne h.wi h.re h.se)).ls.length = true := by rw [snd_ls]; exact f0
    have f3 : few2 (ansV (Ho.mk (fewL h.ls) h.ba h.ne h.wi h.re h.se) b (List.take 120 t)).ls.length = true := by rw [ans_ls]; exact f0
    have f4 : few2 (agaV (Ho.mk (fewL h.ls) h.ba h.ne h.wi h.re h.se) k).1.ls.length = true := by rcases aga_ls (Ho.mk (fewL h.ls) h.ba h.ne h.wi h.re h.se) k with e | e <;> rw [e] <;> assumption
    simp only [Tree.holds, hs, ht, sL, f1, f2, f3, f4, beq_self_eq_true, bne_self_eq_false, Bool.not_true, Bool.and_true, Bool.true_and, Bool.false_eq_true, false_implies, true_implies, true_and, and_true, Bool.true_eq_false]) (by kernel_rfl) (by kernel_rfl)
end Go.Proofs.Ytibpodgdondakaa
set_option linter.unusedSimpArgs false
set_option linter.unusedVariables false
namespace Go.Sx
open Go.RowKit

/-! ### Trees that set a box -/

theorem setT_flat {β : Type} : ∀ (d : Nat) (t : Tb β) (i : Nat) (v : Option β), (∃ t', ∀ (α : Type) (k : Tb β → Tree α), setT d t i v k = k t') ∨ ∃ n, ∀ (α : Type) (k : Tb β → Tree α), setT d t i v k = .fail n
  | 0, t, i, v => .inr ⟨3, fun _ _ => rfl⟩
  | d + 1, .e, 0, v => .inl ⟨_, fun _ _ => rfl⟩
  | d + 1, .n l u r, 0, v => .inl ⟨_, fun _ _ => rfl⟩
  | d + 1, .e, j + 1, v => by
    by_cases hj : j % 2 = 0
    · have e : ∀ (α : Type) (k : Tb β → Tree α), setT (d + 1) .e (j + 1) v k = setT d .e (j / 2) v fun l => k (.n l none .e) := fun α k => by
        change Tb.pick j (fun i => setT d .e i v fun l => k (.n l none .e)) (fun i => setT d .e i v fun r => k (.n .e none r)) = _
        rw [Tb.pick_even hj]
      rcases setT_flat d .e (j / 2) v with ⟨t', h⟩ | ⟨n, h⟩
      · exact .inl ⟨_, fun α k => by rw [e, h]⟩
      · exact .inr ⟨n, fun α k => by rw [e, h]⟩
    · have e : ∀ (α : Type) (k : Tb β → Tree α), setT (d + 1) .e (j + 1) v k = setT d .e (j / 2) v fun r => k (.n .e none r) := fun α k => by
        change Tb.pick j (fun i => setT d .e i v fun l => k (.n l none .e)) (fun i => setT d .e i v fun r => k (.n .e none r)) = _
        rw [Tb.pick_odd hj]
      rcases setT_flat d .e (j / 2) v with ⟨t', h⟩ | ⟨n, h⟩
      · exact .inl ⟨_, fun α k => by rw [e, h]⟩
      · exact .inr ⟨n, fun α k => by rw [e, h]⟩
  | d + 1, .n l u r, j + 1, v => by
    by_cases hj : j % 2 = 0
    · have e : ∀ (α : Type) (k : Tb β → Tree α), setT (d + 1) (.n l u r) (j + 1) v k = setT d l (j / 2) v fun l => k (.n l u r) := fun α k => by
        change Tb.pick j (fun i => setT d l i v fun l => k (.n l u r)) (fun i => setT d r i v fun r => k (.n l u r)) = _
        rw [Tb.pick_even hj]
      rcases setT_flat d l (j / 2) v with ⟨t', h⟩ | ⟨n, h⟩
      · exact .inl ⟨_, fun α k => by rw [e, h]⟩
      · exact .inr ⟨n, fun α k => by rw [e, h]⟩
    · have e : ∀ (α : Type) (k : Tb β → Tree α), setT (d + 1) (.n l u r) (j + 1) v k = setT d r (j / 2) v fun r => k (.n l u r) := fun α k => by
        change Tb.pick j (fun i => setT d l i v fun l => k (.n l u r)) (fun i => setT d r i v fun r => k (.n l u r)) = _
        rw [Tb.pick_odd hj]
      rcases setT_flat d r (j / 2) v with ⟨t', h⟩ | ⟨n, h⟩
      · exact .inl ⟨_, fun α k => by rw [e, h]⟩
      · exact .inr ⟨n, fun α k => by rw [e, h]⟩

section
variable {α : Type} {Φ : α → Prop}
theorem setT_says {β : Type} {d : Nat} {t : Tb β} {i : Nat} {v : Option β} {k : Tb β → Tree α} (h : ∀ t', TbSet t i v t' → (k t').says Φ) : (setT d t i v k).says Φ := by
  rcases setT_flat d t i v with ⟨t', h1⟩ | ⟨n, h1⟩
  · rw [h1]
    obtain ⟨t2, g1, g2⟩ := holds_setT (L := fun x => x = t') d t i v .leaf (by rw [h1]; exact rfl)
    obtain rfl : t2 = t' := g2
    exact h _ g1
  · rw [h1]; trivial
theorem Mem.set_says {m : Mem} {id : Nat} {b : Option Box} {k : Mem → Tree α} (h : ∀ m', MSet m id b m' → (k m').says Φ) : (m.set id b k).says Φ :=
  setT_says fun tb htb => h _ ⟨htb, rfl⟩
theorem Mem.push_says {m : Mem} {B : Box} {k : Mem → Nat → Tree α} (h : ∀ m', MPush m B m' → (k m' m.next).says Φ) : (m.push B k).says Φ := by
  unfold Mem.push
  rw [frcN_eq]
  exact setT_says fun tb htb => h _ ⟨htb, rfl⟩
end

/-- Contracts out of trees, with such functions known. -/
theorem scall_vW {P : Program} (hmix : P.follows .mixedOrders = true) (l : List Fact) (hl : allOk P l) (k : List WFact) (hk : ∀ x ∈ k, x.ok P) (n : Nat) (p : Plan) {f : FuncId} {args : List SV} {v : SV} {t : Tree SV}
    (ht : (execFn (Env.ofW P (sumOf l) (wrOf k)) n f args p).vals = t) (h : t.holds fun x => x = v) (hd : dataL args = true) (hv : v.data = true) : SCall P f args v :=
  scall_of_exec (n := n) (p := p) (known_ofW hmix hl.all hk) hd hv (Tree.vals_holds _ (by rw [ht]; exact h))

/-! ### A block that is stored into -/

theorem setCells_at {P : Program} {w : World} {g o : Nat} {arr : Array Value} {e : TypeId} {fr : Nat × Nat} {vs : List Value} (hg : w.heap[g]? = some (.cells arr e fr)) (hu : unfrozen arr fr) (hl : o + vs.length ≤ arr.size) (h1 : ∀ v ∈ vs, v.oneCell' = true) :
    (w.setCells g o vs).heap[g]? = some (.cells (overA arr o vs) e fr) ∧ (w.setCells g o vs).os = w.os ∧ (w.setCells g o vs).tape = w.tape ∧ (w.setCells g o vs).output = w.output ∧ (w.setCells g o vs).heap.size = w.heap.size ∧ (∀ k, k ≠ g → (w.setCells g o vs).heap[k]? = w.heap[k]?) := by
  obtain ⟨w', r1, r2⟩ := run_storeCells' (P := P) g o e fr vs 0 arr w hg hu (by simpa using hl) h1
  have hc : ∀ j (hj : j < vs.length), w.cell? ⟨g, o + 0 + j, none⟩ = some (arr[o + j]'(by omega)) := fun j hj => by
    rw [cell_of_row w g _ arr e fr hg]; simp
  have hf : ∀ j, j < vs.length → w.frozen? ⟨g, o + 0 + j, none⟩ = false := fun j hj => by
    have := hu (o + j) (by omega)
    simp only [World.frozen?, hg, Nat.add_zero]
    by_cases h2 : fr.1 ≤ o + j
    · have h3 : ¬ o + j < fr.2 := fun h3 => this ⟨h2, h3⟩
      simp [h3]
    · simp [h2]
  have h2 := run_storeCells_cells (P := P) g o vs 0 w (fun j hj => by rw [hc j hj]; rfl) hf h1
  rw [r1] at h2
  injection h2 with h2 h3
  subst h3
  simpa using r2

theorem not_frozen {w : World} {g o : Nat} {arr : Array Value} {e : TypeId} {fr : Nat × Nat} (hg : w.heap[g]? = some (.cells arr e fr)) (hu : unfrozen arr fr) (hl : o < arr.size) : w.frozen? ⟨g, o, none⟩ = false := by
  have := hu o hl
  simp only [World.frozen?, hg]
  by_cases h2 : fr.1 ≤ o
  · have h3 : ¬ o < fr.2 := fun h3 => this ⟨h2, h3⟩
    simp [h3]
  · simp [h2]

theorem run_clear_one {P : Program} (w : World) (t e ty : TypeId) (z : Value) (ht : P.underlying t = some (.slice e)) (hv : ∀ w, (zeroValue e).run P w = .ok z w) (h1 : ∀ v ∈ z.cells.toList, v.oneCell' = true) (b o c : Nat)
    (hc : ∀ j, j < z.cells.size → (w.cell? ⟨b, o + j, none⟩).isSome = true) (hf : ∀ j, j < z.cells.size → w.frozen? ⟨b, o + j, none⟩ = false) :
    (Builtin.clear_ #[t] ty #[.slice (some ⟨b, o, none⟩) 1 c]).run P w = .ok (.tuple #[]) (w.setCells b o z.cells.toList) := by
  have hzc : (Builtin.zeroCells z.cells 1).toList = z.cells.toList := by
    simp only [Builtin.zeroCells, Nat.one_mul]
    apply List.ext_getElem
    · simp
    · intro i h1 h2
      simp only [Array.length_toList] at h2
      simp [Nat.mod_eq_of_lt h2, h2]
  have hst := run_storeCells_cells (P := P) b o z.cells.toList 0 w (by simpa using hc) (by simpa using hf) h1
  simp only [Nat.add_zero] at hst
  simp [Builtin.clear_, run_underlying ht, hv, hzc, hst]

/-- The row of a box is another list now, in its own block. -/
theorem reshape {w0 : World} {R0 : Nat → Prop} {ρ : Rho} {w w' : World} {m m1 m' : Mem} (hm : MRel w0 R0 ρ w m) {id : Nat} {v : Ty} {l l' : List v.T} (hg : m.get id = some (.rows v l)) (h1 : MSet m id none m1) (h3 : MPush m1 (.rows v l') m')
    (hc0 : 0 < (ρ id).2.2) (hle : l'.length ≤ (ρ id).2.2) {arr : Array Value} {e : TypeId} {fr : Nat × Nat} {vs rest : List Value} (hh : w'.heap[(ρ id).1]? = some (.cells arr e fr)) (hu : unfrozen arr fr) (hs : arr.size = (ρ id).2.2 * v.sz) (ha : arr.toList = vs ++ rest)
    (hr : RepDL (RO w0 R0 ρ w m) w v l' vs) (r3 : w'.os = w.os) (r4 : w'.tape = w.tape) (r5 : w'.output = w.output) (r6 : w'.heap.size = w.heap.size) (r7 : ∀ k, k ≠ (ρ id).1 → w'.heap[k]? = w.heap[k]?) :
    OpOut w0 R0 ρ w m (.row m.next) m' (.slice (some ⟨(ρ id).1, 0, none⟩) l'.length (ρ id).2.2) w' := by
  have hlen1 : m1.next = m.next := h1.2
  have hdrop : ∀ k C, m1.get k = some C → k ≠ id ∧ m.get k = some C := fun k C hk => by
    rw [h1.1 k] at hk
    by_cases e0 : k = id
    · rw [if_pos e0] at hk; cases hk
    · rw [if_neg e0] at hk; exact ⟨e0, hk⟩
  have hnew : ∀ k C, m'.get k = some C → (k = m.next ∧ C = .rows v l') ∨ (k ≠ m.next ∧ k ≠ id ∧ m.get k = some C) := fun k C hk => by
    rw [h3.1 k, hlen1] at hk
    by_cases e0 : k = m.next
    · rw [if_pos e0] at hk; injection hk with hk; exact .inl ⟨e0, hk.symm⟩
    · rw [if_neg e0] at hk; exact .inr ⟨e0, hdrop k C hk⟩
  have hidlt : id < m.next := hm.lt id _ hg
  have hsol : solid (ρ id) (.rows v l) := hc0
  have hblk := hm.hi id _ hg hsol
  have hblo := hm.lo id _ hg hsol
  have hro : ∀ b, RO w0 R0 ρ w m b → RO w0 R0 (upd ρ m.next ((ρ id).1, l'.length, (ρ id).2.2)) w' m' b := fun b hb => by
    have hne := hm.ro_ne hb hg hsol
    rcases hb with hb | ⟨g1, g2, g3⟩
    · exact .inl hb
    · refine .inr ⟨g1, by omega, fun k C hk hs' => ?_⟩
      rcases hnew k C hk with ⟨rfl, rfl⟩ | ⟨n1, n2, n3⟩
      · rw [upd_same]; exact hne
      · rw [upd_other _ _ n1] at hs' ⊢; exact g3 k C n3 hs'
  have hext : MExt w0 R0 ρ w m (upd ρ m.next ((ρ id).1, l'.length, (ρ id).2.2)) w' m' :=
    ⟨by rw [h3.2]; omega, fun k hk => upd_other _ _ (by omega), fun b hb => ⟨hro b hb, r7 b (Ne.symm (hm.ro_ne hb hg hsol))⟩⟩
  refine ⟨_, ⟨hm.below.trans ⟨r3, r4, r5, by omega, fun k hk => r7 k (by omega)⟩, fun k C hk => ?_, fun k C hk hs' => ?_, fun k C hk hs' => ?_, fun k k' C C' hk hk' hs1 hs2 he0 => ?_, fun k C hk => ?_⟩, hext, by rw [h3.2]; omega, _, by rw [upd_same], fun _ => by rw [upd_same]⟩
  · rw [h3.2]
    rcases hnew k C hk with ⟨rfl, _⟩ | ⟨_, _, n3⟩
    · omega
    · have := hm.lt k C n3; omega
  · rcases hnew k C hk with ⟨rfl, rfl⟩ | ⟨n1, _, n3⟩
    · rw [upd_same]; exact hblo
    · rw [upd_other _ _ n1] at hs' ⊢; exact hm.lo k C n3 hs'
  · rw [r6]
    rcases hnew k C hk with ⟨rfl, rfl⟩ | ⟨n1, _, n3⟩
    · rw [upd_same]; exact hblk
    · rw [upd_other _ _ n1] at hs' ⊢; exact hm.hi k C n3 hs'
  · rcases hnew k C hk with ⟨rfl, rfl⟩ | ⟨n1, n2, n3⟩ <;> rcases hnew k' C' hk' with ⟨rfl, rfl⟩ | ⟨n1', n2', n3'⟩
    · rfl
    · rw [upd_same] at he0; rw [upd_other _ _ n1'] at he0 hs2
      exact absurd (hm.inj id k' _ C' hg n3' hsol hs2 he0).symm n2'
    · rw [upd_same] at he0; rw [upd_other _ _ n1] at he0 hs1
      exact absurd (hm.inj k id C _ n3 hg hs1 hsol he0) n2
    · rw [upd_other _ _ n1] at he0 hs1; rw [upd_other _ _ n1'] at he0 hs2
      exact hm.inj k k' C C' n3 n3' hs1 hs2 he0
  · rcases hnew k C hk with ⟨rfl, rfl⟩ | ⟨n1, n2, n3⟩
    · rw [upd_same]
      exact boxRows_of rfl hle hh hu hs ha (RepDL.mono hext.keep hr)
    · rw [upd_other _ _ n1]
      exact BoxRel.mono hext C (fun hs' => r7 _ fun he0 => n2 (hm.inj k id C _ n3 hg hs' hsol he0)) (hm.box k C n3)

/-- A list of rows without the row at a place. -/
theorem RepDL.split {R : Nat → Prop} {w : World} {t : Ty} : ∀ {xs : List t.T} {us : List Value} (i : Nat), RepDL R w t xs us → RepDL R w t (xs.take i) (us.take (i * t.sz)) ∧ RepDL R w t (xs.drop i) (us.drop (i * t.sz))
  | xs, us, 0, h => by simpa [RepDL] using h
  | [], us, i + 1, h => by rw [show us = [] from h]; simp [RepDL]
  | x :: xs, us, i + 1, h => by
    obtain ⟨v1, v2, rfl, h1, h2⟩ := h
    have hl := (RepD.flat (ρ := fun _ => (0, 0, 0)) (n := 0) t x v1 h1).1
    obtain ⟨k1, k2⟩ := RepDL.split i h2
    have e1 : (i + 1) * t.sz = v1.length + i * t.sz := by rw [Nat.succ_mul, hl, Nat.add_comm]
    rw [e1, List.take_length_add_append, List.drop_length_add_append]
    exact ⟨⟨v1, _, rfl, h1, k1⟩, k2⟩
end Go.Sx
set_option linter.unusedSimpArgs false
set_option linter.unusedVariables false
namespace Go.Proofs.Ytibpodgdondakaa
open Go.Sx Go.RowKit Go.Lib

theorem Try.info33 : (Try.prog.info? 33).map (fun i => (i.zero, i.size, i.bytes)) = some (some (.agg #[.bool false, .string ⟨#[]⟩, .bool false]), 3, 32) := by kernel_rfl

set_option maxHeartbeats 4000000 in
set_option maxRecDepth 1000000 in
theorem delete_walk (blk n cap i j : Nat) (w : World) (arr : Array Value) (e : TypeId) (fr : Nat × Nat) (hg : w.heap[blk]? = some (.cells arr e fr)) (hu : unfrozen arr fr) (hs : arr.size = cap * 3) (h1 : ∀ v ∈ (arr.toList.drop (j * 3)).take ((n - j) * 3), v.oneCell' = true)
    (hij : j = i + 1) (hj : j ≤ n) (hn : n ≤ cap) :
    Calls Try.prog 56 #[.slice (some ⟨blk, 0, none⟩) n cap, .int .i64 i, .int .i64 j] w fun ex w' => ex = .returned (.slice (some ⟨blk, 0, none⟩) (i + (n - j)) cap) ∧
      w' = (w.drew.setCells blk (0 + i * 3) ((arr.toList.drop (j * 3)).take ((n - j) * 3))).setCells blk ((i + (n - j)) * 3) [.bool false, .string ⟨#[]⟩, .bool false] := by
  have mixed := mix
  obtain ⟨i0, hi0, hz0, hz1, hz2⟩ := info_parts Try.info33
  have hgd : w.drew.heap[blk]? = some (.cells arr e fr) := hg
  obtain ⟨news, hnews⟩ : ∃ news, news = (arr.toList.drop (j * 3)).take ((n - j) * 3) := ⟨_, rfl⟩
  rw [← hnews] at h1
  have hlen : news.length = (n - j) * 3 := by rw [hnews]; simp; omega
  have hget : ∀ t, t < (n - j) * 3 → news[t]? = arr[j * 3 + t]? := by
    intro t ht
    rw [hnews, List.getElem?_take, if_pos ht, List.getElem?_drop, Array.getElem?_toList]
  obtain ⟨A, hA, hsrc⟩ : ∃ A : Addr, (if cap = j then some (⟨blk, 0, none⟩ : Addr) else some ⟨blk, j * 3, none⟩) = some A ∧ Hid (∀ t u, news[t]? = some u → w.drew.cell? (A.add t) = some u) := by
    by_cases h : cap = j
    · refine ⟨⟨blk, 0, none⟩, by simp [h], fun t u hu => ?_⟩
      have h0 : news.length = 0 := by rw [hlen]; omega
      rw [List.length_eq_zero_iff.1 h0] at hu
      simp at hu
    · refine ⟨⟨blk, j * 3, none⟩, by simp [h], fun t u hu => ?_⟩
      have ht : t < (n - j) * 3 := by
        have := (List.getElem?_eq_some_iff.1 hu).1
        rwa [hlen] at this
      rw [hget t ht] at hu
      rw [Addr.add_lit, cell_of_row w.drew blk _ arr e fr hgd]
      exact hu
  have s1 : Hid (news.length = (n - j) * 3) := hlen
  have s2 : Hid (∀ u ∈ news, u.oneCell' = true) := h1
  have s3 : Hid (∀ t, t < news.length → (w.drew.cell? ⟨blk, 0 + i * 3 + t, none⟩).isSome = true ∧ w.drew.frozen? ⟨blk, 0 + i * 3 + t, none⟩ = false) := by
    intro t ht
    rw [hlen] at ht
    refine ⟨?_, not_frozen hgd hu (by omega)⟩
    rw [cell_of_row w.drew blk _ arr e fr hgd, Array.getElem?_eq_getElem (by omega)]
    rfl
  obtain ⟨W1, hW1⟩ : ∃ W1, W1 = w.drew.setCells blk (0 + i * 3) news := ⟨_, rfl⟩
  obtain ⟨q1, _⟩ := setCells_at (P := Try.prog) (o := 0 + i * 3) (vs := news) hgd hu (by rw [hlen]; omega) h1
  rw [← hW1] at q1
  have hq : 0 + i * 3 + news.length ≤ arr.size := by rw [hlen]; omega
  have hu1 := unfrozen_over (us := news) hu hq
  have hsz1 := overA_size hq
  have hcl : ∀ ty, (Builtin.clear_ #[37] ty #[.slice (some ⟨blk, (i + (n - j)) * 3, none⟩) (n - (i + (n - j))) (cap - (i + (n - j)))]).run Try.prog W1 = .ok (.tuple #[]) (W1.setCells blk ((i + (n - j)) * 3) [.bool false, .string ⟨#[]⟩, .bool false]) := by
    intro ty
    rw [show n - (i + (n - j)) = 1 by omega]
    exact run_clear_one W1 37 33 ty (.agg #[.bool false, .string ⟨#[]⟩, .bool false]) Try.underlying37 (fun w => by simp [zeroValue, typeInfo, hi0, hz0]) (fun v hv => by
        simp [Value.cells] at hv
        rcases hv with rfl | rfl | rfl <;> rfl) blk _ _
      (fun t ht => by
        have ht : t < 3 := ht
        rw [cell_of_row W1 blk _ _ e fr q1, Array.getElem?_eq_getElem (by omega)]; rfl)
      (fun t ht => by
        have ht : t < 3 := ht
        exact not_frozen q1 hu1 (by omega))
  have hW : Hid (W1 = w.drew.setCells blk (0 + i * 3) news) := hW1
  rw [← hnews, ← hW1]
  have hic : i ≤ cap := by omega
  have hjc : j ≤ cap := by omega
  have hlt : i < j := by omega
  have hne : ¬ (i = j) := by omega
  clear hW1 hget hnews hlen q1 hu1 hsz1 hq hg hgd hu h1 hij
  go_enter Try.func56, Try.ntmps56
  go_wp2_with fail
  go_region_law_o (refine step_append_room rfl (.tmp 22) (.tmp 25) 37 rfl 33 i0 3 Try.underlying37 hi0 hz1 blk 0 i cap (by simp [Act.eval, Act.put]) A (n - j) (cap - j) news (by simp [Act.eval, Act.put]) s1.out hsrc.out s2.out (by omega) s3.out ?_; rw [← hW.out])
  go_wp2
  go_ret
  exact ⟨rfl, rfl⟩

abbrev pkT : Ty := .pair .bool (.pair .str .bool)
noncomputable def wDel : WFact := ⟨56, fun args m => match args with
  | [.row id, .int .i64 i, .int .i64 j] => match m.get id with
    | some (.rows (.pair .bool (.pair .str .bool)) l) => some (.req (decide (0 ≤ i) && decide (i < (l.length : Int)) && (j == i + 1)) (m.set id none fun m => m.push (.rows pkT (l.eraseIdx i.toNat)) fun m id => .leaf (.row id, m)))
    | _ => none
  | _ => none⟩

theorem wDel_ok : wDel.ok Try.prog := by
  intro args m t ht
  simp only [wDel] at ht
  split at ht
  · rename_i id i j
    split at ht
    · rename_i l hg
      injection ht with ht
      subst ht
      intro hb
      simp only [Bool.and_eq_true, decide_eq_true_eq, beq_iff_eq] at hb
      obtain ⟨⟨hi0, hi1⟩, rfl⟩ := hb
      refine Mem.set_says fun m1 h1 => Mem.push_says fun m' h3 => ?_
      intro w0 R0 ρ w vs hm hvs
      obtain ⟨a, us, rfl, hra, b, us2, rfl, hrb, c, us3, rfl, hrc, hnil⟩ := hvs
      rw [show us3 = [] from hnil, show b = _ from hrb, show c = _ from hrc]
      obtain ⟨_, ad, rfl, had⟩ := hra
      obtain ⟨b1, b2, _⟩ := hm.box id _ hg
      have hil : i.toNat < l.length := by omega
      have hc0 : 0 < (ρ id).2.2 := by omega
      rw [had hc0, ← b1]
      obtain ⟨arr, e, fr, q1, q2, q3, q4⟩ := rows_repDL hm hg hc0
      have q3 : arr.size = (ρ id).2.2 * 3 := q3
      have q4 : RepDL (RO w0 R0 ρ w m) w pkT l (arr.toList.take (l.length * 3)) := q4
      have hasz : arr.toList.length = (ρ id).2.2 * 3 := by simpa using q3
      obtain ⟨k1, _⟩ := RepDL.split i.toNat q4
      obtain ⟨_, k2⟩ := RepDL.split (i.toNat + 1) q4
      have k1 : RepDL (RO w0 R0 ρ w m) w pkT (l.take i.toNat) ((arr.toList.take (l.length * 3)).take (i.toNat * 3)) := k1
      have k2 : RepDL (RO w0 R0 ρ w m) w pkT (l.drop (i.toNat + 1)) ((arr.toList.take (l.length * 3)).drop ((i.toNat + 1) * 3)) := k2
      rw [List.take_take, show min (i.toNat * 3) (l.length * 3) = i.toNat * 3 by omega] at k1
      rw [List.drop_take, show l.length * 3 - (i.toNat + 1) * 3 = (l.length - (i.toNat + 1)) * 3 by omega] at k2
      obtain ⟨news, hnews⟩ : ∃ news, news = (arr.toList.drop ((i.toNat + 1) * 3)).take ((l.length - (i.toNat + 1)) * 3) := ⟨_, rfl⟩
      have hone : ∀ y ∈ news, y.oneCell' = true := by
        rw [hnews]
        have : ∀ (ls : List pkT.T) (us : List Value), RepDL (RO w0 R0 ρ w m) w pkT ls us → ∀ y ∈ us, y.oneCell' = true := by
          intro ls
          induction ls with
          | nil => intro us h y hy; rw [show us = [] from h] at hy; cases hy
          | cons a ls ih =>
            intro us h y hy
            obtain ⟨v1, v2, rfl, r1, r2⟩ := h
            rcases List.mem_append.1 hy with hy | hy
            · exact repD_one pkT a v1 r1 y hy
            · exact ih v2 r2 y hy
        exact this _ _ k2
      have hlen : news.length = (l.length - (i.toNat + 1)) * 3 := by rw [hnews]; simp; omega
      dsimp only [wDel]
      rw [callFunc_enter (P := Try.prog) Try.func56 (body := _) rfl (by kernel_rfl)]
      have hij : (Value.int .i64 (i + 1)) = .int .i64 ((i.toNat + 1 : Nat) : Int) := by congr 1; omega
      have hii : (Value.int .i64 i) = .int .i64 (i.toNat : Int) := by congr 1; omega
      rw [hij, hii]
      refine Calls.mono (delete_walk (ρ id).1 l.length (ρ id).2.2 i.toNat (i.toNat + 1) w arr e fr q1 q2 q3 (by rw [← hnews]; exact hone) rfl (by omega) b2) fun ex w' ⟨he, hw'⟩ => ⟨_, he, ?_⟩
      rw [← hnews] at hw'
      have hq : 0 + i.toNat * 3 + news.length ≤ arr.size := by rw [hlen]; omega
      obtain ⟨p1, p2, p3, p4, p5, p6⟩ := setCells_at (P := Try.prog) (w := w.drew) (o := 0 + i.toNat * 3) (vs := news) q1 q2 hq hone
      have hs1 := overA_size hq
      have hu1 := unfrozen_over (us := news) q2 hq
      have hq2 : (i.toNat + (l.length - (i.toNat + 1))) * 3 + [Value.bool false, .string ⟨#[]⟩, .bool false].length ≤ (overA arr (0 + i.toNat * 3) news).size := by rw [hs1]; simp; omega
      obtain ⟨r1, r2, r3, r4, r5, r6⟩ := setCells_at (P := Try.prog) (w := w.drew.setCells (ρ id).1 (0 + i.toNat * 3) news) (o := (i.toNat + (l.length - (i.toNat + 1))) * 3) (vs := [.bool false, .string ⟨#[]⟩, .bool false]) p1 hu1 hq2 (fun v hv => by
        simp at hv
        rcases hv with rfl | rfl | rfl <;> rfl)
      rw [← hw'] at r1 r2 r3 r4 r5 r6
      have hel : (l.eraseIdx i.toNat).length = i.toNat + (l.length - (i.toNat + 1)) := by rw [List.length_eraseIdx, if_pos hil]; omega
      rw [← hel, show m1.next = m.next from h1.2]
      refine reshape hm hg h1 h3 hc0 (by rw [hel]; omega) r1 (unfrozen_over hu1 hq2) (by rw [overA_size hq2, hs1]; exact q3) (vs := arr.toList.take (i.toNat * 3) ++ news) (rest := [.bool false, .string ⟨#[]⟩, .bool false] ++ (overA arr (0 + i.toNat * 3) news).toList.drop ((i.toNat + (l.length - (i.toNat + 1))) * 3 + 3)) ?_ ?_ (r2.trans (p2.trans rfl)) (r3.trans (p3.trans rfl)) (r4.trans (p4.trans rfl)) (r5.trans (p5.trans rfl)) (fun k hk => (r6 k hk).trans ((p6 k hk).trans rfl))
      · have e1 : (overA arr (0 + i.toNat * 3) news).toList.take ((i.toNat + (l.length - (i.toNat + 1))) * 3) = arr.toList.take (i.toNat * 3) ++ news := by
          have : (overA arr (0 + i.toNat * 3) news).toList = (arr.toList.take (i.toNat * 3) ++ news) ++ arr.toList.drop (0 + i.toNat * 3 + news.length) := by simp [overA]
          rw [this, show (i.toNat + (l.length - (i.toNat + 1))) * 3 = (arr.toList.take (i.toNat * 3) ++ news).length by simp [hlen]; omega, List.take_left]
        rw [← e1]
        simp [overA]
      · rw [List.eraseIdx_eq_take_drop_succ]
        exact k1.append (by rw [hnews]; exact k2)
    · cases ht
  · cases ht
end Go.Proofs.Ytibpodgdondakaa
set_option linter.unusedSimpArgs false
set_option linter.unusedVariables false
set_option maxRecDepth 100000
namespace Go.Proofs.Ytibpodgdondakaa
open Go.Sx

def chg (s : List UInt8) (k c : Int) : List UInt8 := s.set k.toNat (s.getD k.toNat 0 ^^^ UInt8.ofNat c.toNat)

theorem xor_back (a c : UInt8) : a ^^^ (a ^^^ c) = c := by rw [← UInt8.xor_assoc, UInt8.xor_self, UInt8.zero_xor]
theorem xor_ne {a c : UInt8} (h : c ≠ 0) : a ^^^ c ≠ a := fun e => h (by have := xor_back a c; rw [e, UInt8.xor_self] at this; exact this.symm)
theorem xorL_ini : ∀ (l : List UInt8) (a c : UInt8), xorL (a ^^^ c) l = xorL a l ^^^ c
  | [], _, _ => rfl
  | b :: l, a, c => by
    show xorL (a ^^^ c ^^^ b) l = xorL (a ^^^ b) l ^^^ c
    rw [show a ^^^ c ^^^ b = (a ^^^ b) ^^^ c by rw [UInt8.xor_assoc, UInt8.xor_comm c b, ← UInt8.xor_assoc], xorL_ini l]
theorem xorL_set (c : UInt8) : ∀ (l : List UInt8) (a : UInt8) (k : Nat), k < l.length → xorL a (l.set k (l.getD k 0 ^^^ c)) = xorL a l ^^^ c
  | [], _, _, h => absurd h (Nat.not_lt_zero _)
  | b :: l, a, 0, _ => by
    show xorL (a ^^^ (b ^^^ c)) l = xorL (a ^^^ b) l ^^^ c
    rw [← UInt8.xor_assoc, xorL_ini]
  | b :: l, a, k + 1, h => by
    show xorL (a ^^^ b) (l.set k (l.getD k 0 ^^^ c)) = xorL (a ^^^ b) l ^^^ c
    exact xorL_set c l (a ^^^ b) k (by simpa using h)
theorem xr_set {c : UInt8} (hc : c ≠ 0) {l : List UInt8} {k : Nat} (h : k < l.length) : xr (l.set k (l.getD k 0 ^^^ c)) ≠ xr l := by
  unfold xr
  rw [xorL_set c l 0 k h]
  intro e
  have : xorL 0 l ^^^ c = xorL 0 l := UInt8.toNat_inj.1 (by omega)
  exact xor_ne hc this

theorem ix_none {c : UInt8} : ∀ {s : List UInt8}, (∀ a ∈ s, a ≠ c) → ix s c = -1
  | [], _ => rfl
  | a :: s, h => by rw [ix_cons, if_neg (h a List.mem_cons_self), ix_none fun b hb => h b (List.mem_cons_of_mem _ hb), if_pos rfl]
theorem num_digs {M : Int} {t : List UInt8} (hM : 0 ≤ M) (h : numO M t = true) : numV M t = some (numN M t) ∧ ∀ b ∈ t, 48 ≤ (b.toNat : Int) ∧ (b.toNat : Int) ≤ 57 := by
  unfold numO at h; unfold numN
  cases hv : numV M t with
  | none => rw [hv] at h; cases h
  | some v =>
    refine ⟨rfl, fun b hb => ?_⟩
    have := ((numV_eq hM t v).1 hv).2.2.1
    simp only [digs, List.all_eq_true] at this
    exact isDig_iff.1 (this b hb)

/-- One byte of a sealed text is changed: its checksum is none, or is not that of what stands before. -/
theorem sealed_changed {F : List UInt8} (no42 : ∀ a ∈ F, a ≠ 42) {k : Nat} {c : UInt8} (hc : c ≠ 0) (hk : k < (F ++ [42] ++ fmt (xr F)).length) {s : List UInt8} (hs : s = (F ++ [42] ++ fmt (xr F)).set k ((F ++ [42] ++ fmt (xr F)).getD k 0 ^^^ c)) : ¬ (cO s = true ∧ cN s = xr (hd s)) := by
  rintro ⟨hO, hN⟩
  have xrr := xr_range F
  have fb := fmt_bytes (n := xr F) xrr.1 (by omega)
  have b42 : ((42 : UInt8).toNat : Int) = 42 := rfl
  simp only [cO, Bool.and_eq_true] at hO
  obtain ⟨hC, hO⟩ := hO
  have hcN : cN s = numN 255 (cutB s 42) := by unfold cN; rw [hC, if_pos rfl]
  have hhd : hd s = cutA s 42 := by unfold hd; rw [hC, if_pos rfl]
  obtain ⟨hv, hdig⟩ := num_digs (by omega) hO
  obtain ⟨d1, d2, d3⟩ := numV_canon (by omega) (by omega) hv
  rw [hcN, hhd] at hN
  rcases Nat.lt_trichotomy k F.length with h | h | h
  · -- within the body
    have hg : (F ++ [42] ++ fmt (xr F)).getD k 0 = F.getD k 0 := by
      rw [List.getD_eq_getElem?_getD, List.getD_eq_getElem?_getD, List.append_assoc, List.getElem?_append_left h]
    rw [hg, List.append_assoc, List.set_append_left _ _ h] at hs
    by_cases hb : F.getD k 0 ^^^ c = 42
    · -- a new asterisk
      have e : s = F.take k ++ 42 :: (F.drop (k + 1) ++ ([42] ++ fmt (xr F))) := by
        rw [hs, hb, List.set_eq_take_append_cons_drop, if_pos h]; simp
      obtain ⟨_, _, e3⟩ := cut_first (c := 42) (x := F.take k) (r := F.drop (k + 1) ++ ([42] ++ fmt (xr F))) fun a ha => no42 a (List.mem_of_mem_take ha)
      rw [e, e3] at hdig
      have := hdig 42 (by simp)
      omega
    · have no' : ∀ a ∈ F.set k (F.getD k 0 ^^^ c), a ≠ 42 := fun a ha => by
        rcases List.mem_or_eq_of_mem_set ha with ha | ha
        · exact no42 a ha
        · rw [ha]; exact hb
      obtain ⟨_, e2, e3⟩ := cut_first (c := 42) (r := fmt (xr F)) no'
      have e : s = F.set k (F.getD k 0 ^^^ c) ++ 42 :: fmt (xr F) := by rw [hs]; rfl
      rw [e, e2, e3] at hN
      have nx : numV 255 (fmt (xr F)) = some (xr F) := numV_fmt xrr.1 xrr.2 (by omega)
      unfold numN at hN
      rw [nx] at hN
      exact xr_set hc h hN.symm
  · -- the asterisk itself
    have hg : (F ++ [42] ++ fmt (xr F)).getD k 0 = 42 := by
      rw [List.getD_eq_getElem?_getD, List.append_assoc, List.getElem?_append_right (by omega), h]; simp
    rw [hg, List.append_assoc, List.set_append_right _ _ (by omega), h, Nat.sub_self] at hs
    have e : s = F ++ ((42 ^^^ c) :: fmt (xr F)) := by rw [hs]; rfl
    have no : ∀ a ∈ s, a ≠ 42 := by
      rw [e]
      intro a ha
      rcases List.mem_append.1 ha with ha | ha
      · exact no42 a ha
      · rcases List.mem_cons.1 ha with ha | ha
        · rw [ha]; exact xor_ne hc
        · intro e'; subst e'; have := fb _ ha; omega
    have := ix_none no
    simp [cutC, this] at hC
  · -- the checksum
    have hl : (F ++ [42]).length ≤ k := by simp; omega
    have hk' : k - (F ++ [42]).length < (fmt (xr F)).length := by simp at hk ⊢; omega
    have hg : (F ++ [42] ++ fmt (xr F)).getD k 0 = (fmt (xr F)).getD (k - (F ++ [42]).length) 0 := by
      rw [List.getD_eq_getElem?_getD, List.getD_eq_getElem?_getD, List.getElem?_append_right hl]
    rw [hg, List.set_append_right _ _ hl] at hs
    generalize k - (F ++ [42]).length = j at hs hk'
    have e : s = F ++ 42 :: (fmt (xr F)).set j ((fmt (xr F)).getD j 0 ^^^ c) := by rw [hs]; simp
    obtain ⟨_, e2, e3⟩ := cut_first (c := 42) (r := (fmt (xr F)).set j ((fmt (xr F)).getD j 0 ^^^ c)) no42
    rw [← e] at e2 e3
    rw [e2] at hN
    rw [e3, ← e3, hN] at d1
    rw [e3] at d1
    have h1 : ((fmt (xr F)).set j ((fmt (xr F)).getD j 0 ^^^ c))[j]? = (fmt (xr F))[j]? := by rw [d1]
    rw [List.getElem?_set_self hk', List.getD_eq_getElem?_getD, List.getElem?_eq_getElem hk'] at h1
    simp only [Option.getD_some, Option.some.injEq] at h1
    exact xor_ne hc h1

theorem c_ne {c : Int} (h0 : 0 ≤ c) (h1 : c ≤ 255) (h : c ≠ 0) : UInt8.ofNat c.toNat ≠ 0 := by
  intro e
  have : (UInt8.ofNat c.toNat).toNat = 0 := by rw [e]; rfl
  rw [UInt8.toNat_ofNat'] at this
  omega
theorem open_changed {n : Int} {t : List UInt8} (h : (frame n t).2 = 0) {k c : Int} (h0 : 0 ≤ k) (hk : k < ((frame n t).1.length : Int)) (hc : UInt8.ofNat c.toNat ≠ 0) : (opn (chg (frame n t).1 k c)).2.2 ≠ 0 := by
  obtain ⟨h1, h2, hp, hl, he⟩ := frame_ok h
  have hMC : MC = 1099511627776 := rfl
  have fb := fmt_bytes (n := n) (by omega) (by omega)
  have hp' : ∀ b ∈ t, okB b = true := by simpa [plainB, List.all_eq_true] using hp
  have b42 : ((42 : UInt8).toNat : Int) = 42 := rfl
  have no42 : ∀ a ∈ [78] ++ fmt n ++ [32] ++ t, a ≠ 42 := by
    intro a ha e
    subst e
    simp only [List.mem_append, List.mem_singleton] at ha
    rcases ha with ((ha | ha) | ha) | ha
    · cases ha
    · have := fb _ ha; omega
    · cases ha
    · have := okB_iff.1 (hp' _ ha); omega
  rw [he] at hk ⊢
  have key := sealed_changed no42 hc (k := k.toNat) (by omega) rfl
  unfold opn
  split
  · rename_i hg
    split
    · rename_i hx
      refine absurd ⟨?_, hx⟩ key
      unfold goodB at hg
      rw [Bool.and_eq_true] at hg
      exact hg.1
    · show (7 : Int) ≠ 0; decide
  · show (5 : Int) ≠ 0; decide
theorem answer_changed {w : List UInt8} {n : Int} (hw : w = wOk ∨ w = wRe) (hn : 0 ≤ n) (hn1 : n ≤ MC + 1) {k c : Int} (h0 : 0 ≤ k) (hk : k < ((repl w n).length : Int)) (hc : UInt8.ofNat c.toNat ≠ 0) : aB (chg (repl w n) k c) = false := by
  have hMC := MC_eq
  have fb := fmt_bytes (n := n) (by omega) (by omega)
  have b42 : ((42 : UInt8).toNat : Int) = 42 := rfl
  have w42 : ∀ a ∈ w, a ≠ 42 ∧ a ≠ 32 := by rcases hw with h | h <;> subst h <;> decide
  have no42 : ∀ a ∈ w ++ [32] ++ fmt n, a ≠ 42 := by
    intro a ha e
    subst e
    simp only [List.mem_append, List.mem_singleton] at ha
    rcases ha with (ha | ha) | ha
    · exact (w42 _ ha).1 rfl
    · cases ha
    · have := fb _ ha; omega
  unfold repl at hk ⊢
  have key := sealed_changed no42 hc (k := k.toNat) (by omega) rfl
  rw [← Bool.not_eq_true]
  intro h
  simp only [aB, aE, Bool.and_eq_true, beq_iff_eq] at h
  exact key ⟨h.1.1, h.1.2.1⟩
theorem chg_small {s : List UInt8} {k c : Int} (h : small s = true) : small (chg s k c) = true := small_le (by unfold chg; rw [List.length_set]; exact Nat.le_refl _) h
end Go.Proofs.Ytibpodgdondakaa
set_option linter.unusedSimpArgs false
set_option linter.unusedVariables false
namespace Go.Sx
open Go.RowKit

/-- The second says no more than the first (fz: boxes that are let go, and their rows data; k: the box of the nil slices). -/
inductive Wk (nz : Bool) (boxes : List (Option Box)) (fz : List Nat) : SV → SV → Prop where
  | same (x : SV) : Wk nz boxes fz x x
  | top (x : SV) : Wk nz boxes fz x .top
  | nil (h : nz = true) : Wk nz boxes fz .nilS (.row boxes.length)
  | frz {id : Nat} {t : Ty} {l : List t.T} (hid : id ∈ fz) (hb : boxes[id]? = some (some (.rows t l))) : Wk nz boxes fz (.row id) (.list t l)

def WkL (nz : Bool) (boxes : List (Option Box)) (fz : List Nat) : List SV → List SV → Prop
  | [], [] => True
  | x :: xs, y :: ys => Wk nz boxes fz x y ∧ WkL nz boxes fz xs ys
  | _, _ => False
def WkK (nz : Bool) (boxes : List (Option Box)) (fz : List Nat) : List (Nat × SV) → List (Nat × SV) → Prop
  | [], [] => True
  | x :: xs, y :: ys => x.1 = y.1 ∧ Wk nz boxes fz x.2 y.2 ∧ WkK nz boxes fz xs ys
  | _, _ => False
inductive WkB (nz : Bool) (boxes : List (Option Box)) (fz : List Nat) : Box → Box → Prop where
  | same (B : Box) : WkB nz boxes fz B B
  | cells {cs ds : List SV} (h : WkL nz boxes fz cs ds) : WkB nz boxes fz (.cells cs) (.cells ds)
def WkBs (nz : Bool) (boxes : List (Option Box)) (fz : List Nat) : Nat → List (Option Box) → List (Option Box) → Prop
  | _, [], [] => nz = false
  | _, [], some (.rows _ []) :: [] => True
  | i, _ :: bs, none :: bs' => WkBs nz boxes fz (i + 1) bs bs'
  | i, some B :: bs, some B' :: bs' => i ∉ fz ∧ WkB nz boxes fz B B' ∧ WkBs nz boxes fz (i + 1) bs bs'
  | _, _, _ => False

section
variable {nz : Bool} {boxes : List (Option Box)} {fz : List Nat}

theorem WkL.refl : ∀ l : List SV, WkL nz boxes fz l l
  | [] => trivial
  | x :: l => ⟨.same x, WkL.refl l⟩
theorem WkL.length : ∀ {l l' : List SV}, WkL nz boxes fz l l' → l'.length = l.length
  | [], [], _ => rfl
  | x :: xs, y :: ys, h => by simp [WkL.length h.2]
theorem WkL.get : ∀ {l l' : List SV}, WkL nz boxes fz l l' → ∀ {i : Nat} {y : SV}, l'[i]? = some y → ∃ x, l[i]? = some x ∧ Wk nz boxes fz x y
  | [], [], _, i, y, h => by simp at h
  | x :: xs, z :: ys, h, 0, y, hy => by
    simp at hy; subst hy
    exact ⟨x, rfl, h.1⟩
  | x :: xs, z :: ys, h, i + 1, y, hy => by
    simpa using WkL.get h.2 (i := i) (y := y) (by simpa using hy)
theorem WkK.lookup : ∀ {ks ks' : List (Nat × SV)}, WkK nz boxes fz ks ks' → ∀ i, Wk nz boxes fz ((ks.lookup i).getD .top) ((ks'.lookup i).getD .top)
  | [], [], _, i => .same _
  | x :: xs, y :: ys, h, i => by
    obtain ⟨h1, h2, h3⟩ := h
    obtain ⟨a, x⟩ := x
    obtain ⟨b, y⟩ := y
    dsimp only at h1 h2
    subst h1
    simp only [List.lookup]
    cases (i == a) with
    | true => exact h2
    | false => exact WkK.lookup h3 i
theorem slotsS_wk {n : Nat} {ks ks' : List (Nat × SV)} (h : WkK nz boxes fz ks ks') : WkL nz boxes fz (slotsS n ks) (slotsS n ks') := by
  unfold slotsS
  induction List.range n with
  | nil => trivial
  | cons i l ih => exact ⟨h.lookup i, ih⟩

theorem WkBs.len : ∀ {i : Nat} {bs bs' : List (Option Box)}, WkBs nz boxes fz i bs bs' → bs.length ≤ bs'.length
  | _, [], [], _ => Nat.le_refl _
  | _, [], some (.rows _ []) :: [], _ => by simp
  | i, _ :: bs, none :: bs', h => by simpa using WkBs.len (i := i + 1) (bs := bs) (bs' := bs') h
  | i, some B :: bs, some B' :: bs', h => by simpa using WkBs.len (i := i + 1) h.2.2
theorem WkBs.len2 (hz : nz = true) : ∀ {i : Nat} {bs bs' : List (Option Box)}, WkBs nz boxes fz i bs bs' → bs.length < bs'.length
  | _, [], [], h => by rw [show nz = false from h] at hz; cases hz
  | _, [], some (.rows _ []) :: [], _ => by simp
  | i, _ :: bs, none :: bs', h => by simpa using WkBs.len2 hz (i := i + 1) (bs := bs) (bs' := bs') h
  | i, some B :: bs, some B' :: bs', h => by simpa using WkBs.len2 hz (i := i + 1) h.2.2
theorem WkBs.get : ∀ {i : Nat} {bs bs' : List (Option Box)}, WkBs nz boxes fz i bs bs' → ∀ {j : Nat} {B' : Box}, (bs'[j]?).join = some B' → (∃ B, (bs[j]?).join = some B ∧ i + j ∉ fz ∧ WkB nz boxes fz B B') ∨ (j = bs.length ∧ ∃ t, B' = .rows t [])
  | _, [], [], _, j, B', h => by simp at h
  | _, [], some (.rows t []) :: [], _, 0, B', h => by
    simp at h; subst h
    exact .inr ⟨rfl, t, rfl⟩
  | _, [], some (.rows t []) :: [], _, j + 1, B', h => by simp at h
  | i, _ :: bs, none :: bs', h, 0, B', hj => by simp at hj
  | i, x :: bs, none :: bs', h, j + 1, B', hj => by
    have := WkBs.get (i := i + 1) (bs := bs) (bs' := bs') h (j := j) (B' := B') (by simpa using hj)
    simpa [Nat.add_assoc, Nat.add_comm 1 j] using this
  | i, some B :: bs, some C :: bs', h, 0, B', hj => by
    simp at hj; subst hj
    exact .inl ⟨B, rfl, by simpa using h.1, h.2.1⟩
  | i, some B :: bs, some C :: bs', h, j + 1, B', hj => by
    have := WkBs.get (i := i + 1) h.2.2 (j := j) (B' := B') (by simpa using hj)
    simpa [Nat.add_assoc, Nat.add_comm 1 j] using this

theorem SRel.weak {slots slots' : List SV} {boxes' : List (Option Box)} {fr fr' : Fr} {m m' : Mem} (hc : Canon slots boxes fr m) (hc' : Canon slots' boxes' fr' m') (hs : WkL nz boxes fz slots slots') (hb : WkBs nz boxes fz 0 boxes boxes') {w0 : World} {R0 : Nat → Prop} {ρ : Rho} {w : World} {a : Act} (h : SRel w0 R0 ρ w fr m a) :
    SRel w0 R0 (upd ρ boxes.length (0, 0, 0)) w fr' m' a ∧ ∀ b, RO w0 R0 ρ w m b → RO w0 R0 (upd ρ boxes.length (0, 0, 0)) w m' b := by
  obtain ⟨h1, h2, h3⟩ := h
  have hlen := hb.len
  have hn : m.next = boxes.length := hc.next
  have hn' : m'.next = boxes'.length := hc'.next
  -- where each box comes from
  have hg : ∀ id B', m'.get id = some B' → (∃ B, m.get id = some B ∧ id ≠ boxes.length ∧ id ∉ fz ∧ WkB nz boxes fz B B') ∨ (id = boxes.length ∧ ∃ t, B' = .rows t []) := fun id B' hB => by
    rw [hc'.box] at hB
    rcases hb.get hB with ⟨B, k1, k2, k3⟩ | k
    · refine .inl ⟨B, by rw [hc.box]; exact k1, fun e => ?_, by simpa using k2, k3⟩
      subst e
      simp at k1
    · exact .inr k
  have hsol : ∀ {B B' : Box} {r : Nat × Nat × Nat}, WkB nz boxes fz B B' → (solid r B' ↔ solid r B) := fun hw => by
    cases hw with
    | same => exact Iff.rfl
    | cells => exact Iff.rfl
  have hro : ∀ b, RO w0 R0 ρ w m b → RO w0 R0 (upd ρ boxes.length (0, 0, 0)) w m' b := fun b hb2 => by
    rcases hb2 with hb2 | ⟨k1, k2, k3⟩
    · exact .inl hb2
    · refine .inr ⟨k1, k2, fun id B' hB hs' => ?_⟩
      rcases hg id B' hB with ⟨B, g1, g2, g3, g4⟩ | ⟨rfl, t, rfl⟩
      · rw [upd_other _ _ g2] at hs' ⊢
        exact k3 id B g1 ((hsol g4).1 hs')
      · rw [upd_same] at hs'; exact absurd hs' (Nat.lt_irrefl _)
  have e : Ext (RO w0 R0 ρ w m) ρ m.next w (RO w0 R0 (upd ρ boxes.length (0, 0, 0)) w m') (upd ρ boxes.length (0, 0, 0)) m'.next w := ⟨by omega, fun id hid => upd_other _ _ (by omega), fun b hb2 => ⟨hro b hb2, rfl⟩⟩
  have hval : ∀ (x y : SV) (v : Value), Wk nz boxes fz x y → Rep (RO w0 R0 ρ w m) ρ m.next w x v → Rep (RO w0 R0 (upd ρ boxes.length (0, 0, 0)) w m') (upd ρ boxes.length (0, 0, 0)) m'.next w y v := by
    intro x y v hw hr
    cases hw with
    | same => exact Rep.mono e _ _ hr
    | top => trivial
    | nil hz =>
      rw [show v = _ from hr]
      have hx := hb.len2 hz
      exact ⟨by omega, none, by rw [upd_same], fun h0 => by rw [upd_same] at h0; exact absurd h0 (Nat.lt_irrefl _)⟩
    | frz hid hb1 =>
      rename_i id t l
      obtain ⟨_, a, hu, ha⟩ := hr
      have hgid : m.get id = some (.rows t l) := by rw [hc.box, hb1]; rfl
      obtain ⟨b1, b2, hp⟩ := h1.box id _ hgid
      refine ⟨a, (ρ id).2.2, by rw [hu, b1], b2, fun h0 => ?_⟩
      have h0 : 0 < (ρ id).2.2 := Nat.lt_of_lt_of_le h0 b2
      obtain ⟨arr, el, fr, k1, k2, k3, k4⟩ := hp h0
      refine ⟨(ρ id).1, 0, ha h0, .inr ⟨h1.lo id _ hgid h0, h1.hi id _ hgid h0, fun id' B' hB hs' heq => ?_⟩, fun i hi => ?_⟩
      · rcases hg id' B' hB with ⟨B, g1, g2, g3, g4⟩ | ⟨rfl, t, rfl⟩
        · rw [upd_other _ _ g2] at hs' heq
          have := h1.inj id' id B _ g1 hgid ((hsol g4).1 hs') h0 heq
          subst this
          exact g3 hid
        · rw [upd_same] at hs'; exact absurd hs' (Nat.lt_irrefl _)
      · obtain ⟨cs, c1, c2, c3⟩ := k4 i hi
        refine ⟨cs, c1, fun j hj => ?_, RepD.mono e.keep _ _ _ c3⟩
        rw [cell_of_row w _ _ arr el fr k1, Nat.zero_add]
        exact c2 j hj
  have hvalL : ∀ (xs ys : List SV) (vs : List Value), WkL nz boxes fz xs ys → RepL (RO w0 R0 ρ w m) ρ m.next w xs vs → RepL (RO w0 R0 (upd ρ boxes.length (0, 0, 0)) w m') (upd ρ boxes.length (0, 0, 0)) m'.next w ys vs := by
    intro xs
    induction xs with
    | nil =>
      intro ys vs hw hr
      cases ys with
      | nil => exact hr
      | cons _ _ => exact hw.elim
    | cons x xs ih =>
      intro ys vs hw hr
      cases ys with
      | nil => exact hw.elim
      | cons y ys =>
        obtain ⟨u, us, rfl, r1, r2⟩ := hr
        exact ⟨u, us, rfl, hval x y u hw.1 r1, ih ys us hw.2 r2⟩
  refine ⟨⟨⟨h1.below, fun id B' hB => ?_, fun id B' hB hs' => ?_, fun id B' hB hs' => ?_, fun id id' B' C' hB hC hs1 hs2 heq => ?_, fun id B' hB => ?_⟩, ⟨?_, fun t => ?_⟩, h3⟩, hro⟩
  · rw [hn']
    rw [hc'.box] at hB
    rcases Nat.lt_or_ge id boxes'.length with k | k
    · exact k
    · rw [List.getElem?_eq_none k] at hB; cases hB
  · rcases hg id B' hB with ⟨B, g1, g2, g3, g4⟩ | ⟨rfl, t, rfl⟩
    · rw [upd_other _ _ g2] at hs' ⊢; exact h1.lo id B g1 ((hsol g4).1 hs')
    · rw [upd_same] at hs'; exact absurd hs' (Nat.lt_irrefl _)
  · rcases hg id B' hB with ⟨B, g1, g2, g3, g4⟩ | ⟨rfl, t, rfl⟩
    · rw [upd_other _ _ g2] at hs' ⊢; exact h1.hi id B g1 ((hsol g4).1 hs')
    · rw [upd_same] at hs'; exact absurd hs' (Nat.lt_irrefl _)
  · rcases hg id B' hB with ⟨B, g1, g2, g3, g4⟩ | ⟨rfl, t, rfl⟩
    · rcases hg id' C' hC with ⟨C, g1', g2', g3', g4'⟩ | ⟨rfl, t', rfl⟩
      · rw [upd_other _ _ g2] at hs1 heq; rw [upd_other _ _ g2'] at hs2 heq
        exact h1.inj id id' B C g1 g1' ((hsol g4).1 hs1) ((hsol g4').1 hs2) heq
      · rw [upd_same] at hs2; exact absurd hs2 (Nat.lt_irrefl _)
    · rw [upd_same] at hs1; exact absurd hs1 (Nat.lt_irrefl _)
  · rcases hg id B' hB with ⟨B, g1, g2, g3, g4⟩ | ⟨rfl, t, rfl⟩
    · rw [upd_other _ _ g2]
      cases g4 with
      | same => exact BoxRel.mono e _ (fun _ => rfl) (h1.box id _ g1)
      | cells hw =>
        obtain ⟨arr, el, fr2, k1, k2, k3⟩ := h1.box id _ g1
        exact ⟨arr, el, fr2, k1, k2, hvalL _ _ _ hw k3⟩
    · rw [upd_same]
      exact ⟨rfl, Nat.le_refl _, fun h0 => absurd h0 (Nat.lt_irrefl _)⟩
  · rw [hc'.size, hs.length, ← hc.size]; exact h2.1
  · rw [hc'.get t, List.getD_eq_getElem?_getD]
    cases hx : slots'[t]? with
    | none =>
      have ht : slots'.length ≤ t := by simpa using hx
      have : a.tmps.getD t Go.undef = Go.undef := by
        rw [Array.getD_eq_getD_getElem?, Array.getElem?_eq_none (by rw [← h2.1, hc.size, ← hs.length]; exact ht)]
        rfl
      rw [this]; exact rfl
    | some y =>
      obtain ⟨x, hx1, hw⟩ := hs.get hx
      refine hval x y _ hw ?_
      have := h2.2 t
      rw [hc.get t, List.getD_eq_getElem?_getD, hx1] at this
      exact this
end

/-- From a state the code comes to its end if it does so from a weaker one. -/
theorem runsR_weak {P : Program} (nz : Bool) {fn : Func} {v : SV} {items : List Item} {slots slots' : List SV} {boxes boxes' : List (Option Box)} (fz : List Nat) (hs : WkL nz boxes fz slots slots') (hb : WkBs nz boxes fz 0 boxes boxes') (h : RunsR P fn v items slots' boxes') : RunsR P fn v items slots boxes := by
  intro fr m hc w0 R0 ρ w a hS b cs
  obtain ⟨fr', m', hc'⟩ := Canon.of (slots := slots') (boxes := boxes')
  obtain ⟨h1, h2⟩ := SRel.weak hc hc' hs hb hS
  obtain ⟨ρ', w', a', todo, u, q1, q2, q3, q4, q5, q6⟩ := h fr' m' hc' w0 R0 _ w a h1 b cs
  exact ⟨ρ', w', a', todo, u, q1, q2, fun b hb2 => q3 b (h2 b hb2), q4, q5, q6⟩
/-- The boxes named anew. -/
theorem runsR_ren {P : Program} {fn : Func} {v : SV} {items : List Item} {slots : List SV} {boxes : List (Option Box)} (ids : List Nat) (hn : nodupB ids = true) (h : RunsR P fn v items (renL ids slots) (ids.map fun id => ((boxes[id]?).join).map (renB ids))) : RunsR P fn v items slots boxes := by
  intro fr m hc w0 R0 ρ w a hS b cs
  obtain ⟨fr2, m2, hc2⟩ := Canon.of (slots := renL ids slots) (boxes := ids.map fun id => (m.get id).map (renB ids))
  have e : (ids.map fun id => (m.get id).map (renB ids)) = ids.map fun id => ((boxes[id]?).join).map (renB ids) := List.map_congr_left fun id _ => by rw [hc.box id]
  obtain ⟨h1, h2⟩ := hS.rename (nodupB_spec hn) hc2 hc.size.symm (fun i x hx => .inr (by rw [hc.get i, List.getD_eq_getElem?_getD, hx]; rfl))
  rw [e] at hc2
  obtain ⟨ρ', w', a', todo, u, q1, q2, q3, q4, q5, q6⟩ := h fr2 m2 hc2 w0 R0 _ w a h1 b cs
  exact ⟨ρ', w', a', todo, u, q1, q2, fun b hb2 => q3 b (h2 b hb2), q4, q5, q6⟩
end Go.Sx
set_option linter.unusedSimpArgs false
set_option linter.unusedVariables false
set_option maxRecDepth 100000
namespace Go.Proofs.Ytibpodgdondakaa
open Go.Sx

abbrev PkT : Type := Bool × (List UInt8 × Bool)
def zPk : PkT := (false, ([], false))
/-- The packet at a place. -/
def pg (l : List PkT) (i : Int) : PkT := l.getD i.toNat zPk
def tn (s : List UInt8) : List Int := s.map fun b => (b.toNat : Int)
def un (l : List Int) : List UInt8 := l.map fun n => UInt8.ofNat n.toNat
def inB (l : List PkT) (i : Int) : Bool := decide (i ≥ 0) && decide (i < (l.length : Int))
theorem pg_drop {l : List PkT} {i : Int} (h0 : 0 ≤ i) (h : i < l.length) : l.drop i.toNat = pg l i :: l.drop (i + 1).toNat ∧ pg l i ∈ l ∧ l.take (i + 1).toNat = l.take i.toNat ++ [pg l i] := by
  have hl : i.toNat < l.length := by omega
  have e : pg l i = l[i.toNat] := by
    unfold pg
    rw [List.getD_eq_getElem?_getD, List.getElem?_eq_getElem hl]; rfl
  refine ⟨?_, ?_, ?_⟩
  · rw [List.drop_eq_getElem_cons hl, e, show (i + 1).toNat = i.toNat + 1 by omega]
  · rw [e]; exact List.getElem_mem hl
  · rw [e, show (i + 1).toNat = i.toNat + 1 by omega, List.take_succ_eq_append_getElem hl]
/-- Facts on packets and a number. -/
def factP (f : FuncId) (h : List PkT → Int → Tree SV) : Fact := ⟨f, fun args => match args with
  | [.list (.pair .bool (.pair .str .bool)) l, .int .i64 n] => some (.req (few2 (List.length l)) (h l n))
  | _ => none⟩
theorem factP_ok {P : Program} {f : FuncId} {h : List PkT → Int → Tree SV} (k : ∀ (l : List PkT) n, few2 l.length = true → (h l n).says (SCall P f [.list Pk l, I64 n])) : (factP f h).ok P := fun args t ht => by
  simp only [factP] at ht
  split at ht
  · injection ht with ht; subst ht; exact k _ _
  · cases ht
def factPI (f : FuncId) (h : List PkT → Int → Int → Tree SV) : Fact := ⟨f, fun args => match args with
  | [.list (.pair .bool (.pair .str .bool)) l, .int .i64 n, .int .i64 k] => some (.req (few2 (List.length l)) (h l n k))
  | _ => none⟩
theorem factPI_ok {P : Program} {f : FuncId} {h : List PkT → Int → Int → Tree SV} (k : ∀ (l : List PkT) n k, few2 l.length = true → (h l n k).says (SCall P f [.list Pk l, I64 n, I64 k])) : (factPI f h).ok P := fun args t ht => by
  simp only [factPI] at ht
  split at ht
  · injection ht with ht; subst ht; exact k _ _ _
  · cases ht
def factPP (f : FuncId) (h : List PkT → List PkT → Tree SV) : Fact := ⟨f, fun args => match args with
  | [.list (.pair .bool (.pair .str .bool)) l, .list (.pair .bool (.pair .str .bool)) k] => some (.req (few2 (List.length l)) (h l k))
  | _ => none⟩
theorem factPP_ok {P : Program} {f : FuncId} {h : List PkT → List PkT → Tree SV} (k : ∀ (l k : List PkT), few2 l.length = true → (h l k).says (SCall P f [.list Pk l, .list Pk k])) : (factPP f h).ok P := fun args t ht => by
  simp only [factPP] at ht
  split at ht
  · injection ht with ht; subst ht; exact k _ _
  · cases ht
theorem w_one {P : Program} {x : WFact} (h : x.ok P) : ∀ y ∈ [x], y.ok P := fun y hy => by
  rw [List.mem_singleton.1 hy]; exact h
theorem hKW {l : List Fact} (h : allOk Try.prog l) : Known Try.prog (Env.ofW Try.prog (sumOf l) (wrOf [wDel])) := known_ofW mix h.all (w_one wDel_ok)
end Go.Proofs.Ytibpodgdondakaa
set_option linter.unusedSimpArgs false
set_option linter.unusedVariables false
set_option maxRecDepth 100000
namespace Go.Proofs.Ytibpodgdondakaa
open Go.Sx
def prs_p : Plan := .fork (.lit (.lit (.lit (.lit (.all))))) (.lit (.lit (.lit (.lit (.all)))))
noncomputable def prs_t (l : List PkT) (a : Int) : Tree Stop :=
   .node (decide (a ≥ 0))
 (.leaf (Stop.done (SV.bool (decide (a < (l.length : Int))))))
 (.leaf (Stop.done (SV.bool false)))
theorem prs (l : List PkT) (a : Int) : segR (Env.of Try.prog (sumOf [])) 1000 (fnOf Try.prog 55) .unit (keepS 13 []) (codeS Try.prog 55) prs_p (startS Try.prog 55 [.list Pk l, I64 a]) [] = prs_t l a := by kernel_rfl
def dlv_p : Plan := .fork (.lit (.lit (.lit (.lit (.fork (.all) (.lit (.fork (.all) (.all)))))))) (.lit (.lit (.lit (.lit (.lit (.all))))))
noncomputable def dlv_t (l : List PkT) (a : Int) : Tree Stop :=
   .node (decide (a ≥ 0))
 (.node (!decide (a < (l.length : Int)))
  (.leaf (Stop.done (SV.tuple [SV.agg [SV.bool false, SV.str [], SV.bool false], SV.list Pk [], I64 9])))
  (.req (decide (0 ≤ a) && decide (a < (l.length : Int))) (.req (!l.isEmpty) (.node ((l).isEmpty)
     (.fail 113)
     (.req (decide ((0 + (l).length) * 32 ≤ 140737488355328)) (.req (decide (0 ≤ a) && decide (a < ↑([] ++ l).length) && IntKind.i64.wrap (a + 1) == a + 1) (.leaf (Stop.done (SV.tuple [SV.agg [SV.bool (pg l a).fst, SV.str (pg l a).snd.fst, SV.bool (pg l a).snd.snd], SV.list Pk (([] ++ l).eraseIdx a.toNat), I64 0])))))))))
 (.leaf (Stop.done (SV.tuple [SV.agg [SV.bool false, SV.str [], SV.bool false], SV.list Pk [], I64 9])))
theorem dlv (l : List PkT) (a : Int) : segR (Env.ofW Try.prog (sumOf []) (wrOf [wDel])) 1000 (fnOf Try.prog 18) Pk (keepS 22 []) (codeS Try.prog 18) dlv_p (startS Try.prog 18 [.list Pk l, I64 a]) [] = dlv_t l a := by kernel_rfl
def dlvR0_p : Plan := .fork (.lit (.lit (.lit (.lit (.lit (.all)))))) (.lit (.lit (.lit (.lit (.fork (.all) (.all))))))
noncomputable def dlvR0_t (l : List PkT) (a : Int) : Tree Stop :=
   .node (decide (a < 0))
 (.leaf (Stop.done (SV.tuple [SV.agg [SV.bool false, SV.str [], SV.bool false], SV.list Pk [], I64 9])))
 (.node (decide (a ≥ (l.length : Int)))
  (.leaf (Stop.done (SV.tuple [SV.agg [SV.bool false, SV.str [], SV.bool false], SV.list Pk [], I64 9])))
  (.leaf (Stop.at (loopOf Try.prog 19 0) 39 (slotsS 39 [(0, SV.list Pk l), (1, I64 a), (4, SV.ptr 0 0), (7, SV.nilS), (8, I64 0)]) [some (Box.cells [SV.bool false, SV.str [], SV.bool false])])))
theorem dlvR0 (l : List PkT) (a : Int) : segR (Env.of Try.prog (sumOf [])) 1000 (fnOf Try.prog 19) Pk (keepS 39 [0,1,4,7,8]) (codeS Try.prog 19) dlvR0_p (startS Try.prog 19 [.list Pk l, I64 a]) [] = dlvR0_t l a := by kernel_rfl
def dlvR1_p : Plan := .fork (.fork (.all) (.all)) (.all)
noncomputable def dlvR1_t (l : List PkT) (a : Int) (o : List PkT) (i : Int) : Tree Stop :=
   .node (decide (i < (l.length : Int)))
 (.node (i != a)
  (.req (decide (0 ≤ i) && decide (i < (l.length : Int))) (.req (decide ((o.length + [(pg l i)].length) * 32 ≤ 140737488355328)) (.leaf (Stop.at (loopOf Try.prog 19 0) 39 (slotsS 39 [(0, SV.list Pk l), (1, I64 a), (4, SV.ptr 0 0), (7, SV.row 1), (8, I64 (IntKind.i64.wrap (i + 1)))]) [some (Box.cells [SV.bool false, SV.str [], SV.bool false]), some (Box.rows Pk (o ++ [(pg l i)]))]))))
  (.leaf (Stop.at (loopOf Try.prog 19 0) 39 (slotsS 39 [(0, SV.list Pk l), (1, I64 a), (4, SV.ptr 0 0), (7, SV.row 1), (8, I64 (IntKind.i64.wrap (i + 1)))]) [some (Box.cells [SV.bool false, SV.str [], SV.bool false]), some (Box.rows Pk o)])))
 (.req (decide (0 ≤ a) && decide (a < (l.length : Int))) (.leaf (Stop.done (SV.tuple [SV.agg [SV.bool (pg l a).fst, SV.str (pg l a).snd.fst, SV.bool (pg l a).snd.snd], SV.list Pk o, I64 0]))))
theorem dlvR1 (l : List PkT) (a : Int) (o : List PkT) (i : Int) : segR (Env.of Try.prog (sumOf [])) 1000 (fnOf Try.prog 19) Pk (keepS 39 [0,1,4,7,8]) (loopOf Try.prog 19 0) dlvR1_p (slotsS 39 [(0, .list Pk l), (1, I64 a), (4, .ptr 0 0), (7, .row 1), (8, I64 i)]) [some (.cells [.bool false, .str [], .bool false]), some (.rows Pk o)] = dlvR1_t l a o i := by kernel_rfl
def dbl_p : Plan := .fork (.lit (.lit (.lit (.lit (.fork (.all) (.fork (.all) (.lit (.fork (.all) (.all))))))))) (.lit (.lit (.lit (.lit (.lit (.all))))))
noncomputable def dbl_t (l : List PkT) (a : Int) : Tree Stop :=
   .node (decide (a ≥ 0))
 (.node (!decide (a < (l.length : Int)))
  (.leaf (Stop.done (SV.tuple [SV.list Pk [], I64 9])))
  (.node (decide ((l.length : Int) ≥ 64))
   (.leaf (Stop.done (SV.tuple [SV.list Pk [], I64 18])))
   (.req (!l.isEmpty) (.node ((l).isEmpty)
     (.fail 113)
     (.req (decide ((0 + (l).length) * 32 ≤ 140737488355328)) (.req (decide (0 ≤ a) && decide (a < (l.length : Int))) (.req (decide ((([] ++ l).length + ([(pg l a)]).length) * 32 ≤ 140737488355328)) (.leaf (Stop.done (SV.tuple [SV.list Pk (([] ++ l) ++ [(pg l a)]), I64 0]))))))))))
 (.leaf (Stop.done (SV.tuple [SV.list Pk [], I64 9])))
theorem dbl (l : List PkT) (a : Int) : segR (Env.of Try.prog (sumOf [])) 1000 (fnOf Try.prog 20) Pk (keepS 23 []) (codeS Try.prog 20) dbl_p (startS Try.prog 20 [.list Pk l, I64 a]) [] = dbl_t l a := by kernel_rfl
def dblR_p : Plan := .fork (.lit (.lit (.lit (.lit (.lit (.all)))))) (.lit (.lit (.lit (.lit (.fork (.all) (.fork (.all) (.fork (.lit (.all)) (.all))))))))
noncomputable def dblR_t (l : List PkT) (a : Int) : Tree Stop :=
   .node (decide (a < 0))
 (.leaf (Stop.done (SV.tuple [SV.list Pk [], I64 9])))
 (.node (decide (a ≥ (l.length : Int)))
  (.leaf (Stop.done (SV.tuple [SV.list Pk [], I64 9])))
  (.node (decide ((l.length : Int) ≥ 64))
   (.leaf (Stop.done (SV.tuple [SV.list Pk [], I64 18])))
   (.node ((l).isEmpty)
    (.req (decide (0 ≤ a) && decide (a < (l.length : Int))) (.req (decide ((0 + [(pg l a)].length) * 32 ≤ 140737488355328)) (.leaf (Stop.done (SV.tuple [SV.list Pk ([] ++ [(pg l a)]), I64 0])))))
    (.req (decide ((0 + (l).length) * 32 ≤ 140737488355328)) (.req (decide (0 ≤ a) && decide (a < (l.length : Int))) (.req (decide ((([] ++ l).length + [(pg l a)].length) * 32 ≤ 140737488355328)) (.leaf (Stop.done (SV.tuple [SV.list Pk (([] ++ l) ++ [(pg l a)]), I64 0])))))))))
theorem dblR (l : List PkT) (a : Int) : segR (Env.of Try.prog (sumOf [])) 1000 (fnOf Try.prog 21) Pk (keepS 29 []) (codeS Try.prog 21) dblR_p (startS Try.prog 21 [.list Pk l, I64 a]) [] = dblR_t l a := by kernel_rfl
def spo_p : Plan := .fork (.lit (.lit (.lit (.lit (.fork (.all) (.fork (.lit (.lit (.lit (.lit (.lit (.lit (.lit (.all)))))))) (.lit (.lit (.lit (.lit (.lit (.lit (.fork (.all) (.lit (.fork (.all) (.all)))))))))))))))) (.lit (.lit (.lit (.lit (.lit (.all))))))
noncomputable def spo_t (l : List PkT) (a : Int) (n : Int) : Tree Stop :=
   .node (decide (a ≥ 0))
 (.node (!decide (a < (l.length : Int)))
  (.leaf (Stop.done (SV.tuple [SV.list Pk [], I64 9])))
  (.req (decide (0 ≤ a) && decide (a < (l.length : Int))) (.node ((pg l a).snd.snd)
    (.leaf (Stop.done (SV.tuple [SV.list Pk [], I64 14])))
    (.req (decide (0 ≤ a) && decide (a < (l.length : Int))) (.node ((pg l a).snd.fst == [])
      (.leaf (Stop.done (SV.tuple [SV.list Pk [], I64 14])))
      (.req (!l.isEmpty) (.node ((l).isEmpty)
        (.fail 113)
        (.req (decide ((0 + (l).length) * 32 ≤ 140737488355328)) (.req (decide (0 ≤ a) && decide (a < (l.length : Int))) (.req (!((tn (pg l a).snd.fst).length : Int) == 0) (.req (!((tn (pg l a).snd.fst).length : Int) == 0) (.req (decide (0 ≤ (IntKind.i64.wrap (n.tmod ((tn (pg l a).snd.fst).length : Int) + ((tn (pg l a).snd.fst).length : Int))).tmod ((tn (pg l a).snd.fst).length : Int)) && decide ((IntKind.i64.wrap (n.tmod ((tn (pg l a).snd.fst).length : Int) + ((tn (pg l a).snd.fst).length : Int))).tmod ((tn (pg l a).snd.fst).length : Int) < ((tn (pg l a).snd.fst).length : Int))) (.req (decide (((IntKind.i64.wrap (n.tmod ((tn (pg l a).snd.fst).length : Int) + ((tn (pg l a).snd.fst).length : Int))).tmod ((tn (pg l a).snd.fst).length : Int)).toNat < (tn (pg l a).snd.fst).length)) (.req (decide (0 ≤ (IntKind.i64.wrap (n.tmod ((tn (pg l a).snd.fst).length : Int) + ((tn (pg l a).snd.fst).length : Int))).tmod ((tn (pg l a).snd.fst).length : Int)) && decide ((IntKind.i64.wrap (n.tmod ((tn (pg l a).snd.fst).length : Int) + ((tn (pg l a).snd.fst).length : Int))).tmod ((tn (pg l a).snd.fst).length : Int) < ((tn (pg l a).snd.fst).length : Int))) (.req (decide (((IntKind.i64.wrap (n.tmod ((tn (pg l a).snd.fst).length : Int) + ((tn (pg l a).snd.fst).length : Int))).tmod ((tn (pg l a).snd.fst).length : Int)).toNat < (tn (pg l a).snd.fst).length)) (.req (decide (0 ≤ a) && decide (a < ↑([] ++ l).length)) (.req (decide (a.toNat < ([] ++ l).length)) (.req (decide (0 ≤ a) && decide (a < ↑(([] ++ l).set a.toNat ((([] ++ l).getD a.toNat (Ty.bool.pair (Ty.str.pair Ty.bool)).dflt).fst, un ((tn (pg l a).snd.fst).set ((IntKind.i64.wrap (n.tmod ((tn (pg l a).snd.fst).length : Int) + ((tn (pg l a).snd.fst).length : Int))).tmod ((tn (pg l a).snd.fst).length : Int)).toNat (IntKind.u8.wrap ↑(BitVec.ofInt 8 ((tn (pg l a).snd.fst).getD ((IntKind.i64.wrap (n.tmod ((tn (pg l a).snd.fst).length : Int) + ((tn (pg l a).snd.fst).length : Int))).tmod ((tn (pg l a).snd.fst).length : Int)).toNat 0) ^^^ BitVec.ofInt 8 1).toNat)), (([] ++ l).getD a.toNat (Ty.bool.pair (Ty.str.pair Ty.bool)).dflt).snd.snd)).length)) (.req (decide (a.toNat < (([] ++ l).set a.toNat ((([] ++ l).getD a.toNat (Ty.bool.pair (Ty.str.pair Ty.bool)).dflt).fst, un ((tn (pg l a).snd.fst).set ((IntKind.i64.wrap (n.tmod ((tn (pg l a).snd.fst).length : Int) + ((tn (pg l a).snd.fst).length : Int))).tmod ((tn (pg l a).snd.fst).length : Int)).toNat (IntKind.u8.wrap ↑(BitVec.ofInt 8 ((tn (pg l a).snd.fst).getD ((IntKind.i64.wrap (n.tmod ((tn (pg l a).snd.fst).length : Int) + ((tn (pg l a).snd.fst).length : Int))).tmod ((tn (pg l a).snd.fst).length : Int)).toNat 0) ^^^ BitVec.ofInt 8 1).toNat)), (([] ++ l).getD a.toNat (Ty.bool.pair (Ty.str.pair Ty.bool)).dflt).snd.snd)).length)) (.leaf (Stop.done (SV.tuple [SV.list Pk ((([] ++ l).set a.toNat ((([] ++ l).getD a.toNat (Ty.bool.pair (Ty.str.pair Ty.bool)).dflt).fst, un ((tn (pg l a).snd.fst).set ((IntKind.i64.wrap (n.tmod ((tn (pg l a).snd.fst).length : Int) + ((tn (pg l a).snd.fst).length : Int))).tmod ((tn (pg l a).snd.fst).length : Int)).toNat (IntKind.u8.wrap ↑(BitVec.ofInt 8 ((tn (pg l a).snd.fst).getD ((IntKind.i64.wrap (n.tmod ((tn (pg l a).snd.fst).length : Int) + ((tn (pg l a).snd.fst).length : Int))).tmod ((tn (pg l a).snd.fst).length : Int)).toNat 0) ^^^ BitVec.ofInt 8 1).toNat)), (([] ++ l).getD a.toNat (Ty.bool.pair (Ty.str.pair Ty.bool)).dflt).snd.snd)).set a.toNat (((([] ++ l).set a.toNat ((([] ++ l).getD a.toNat (Ty.bool.pair (Ty.str.pair Ty.bool)).dflt).fst, un ((tn (pg l a).snd.fst).set ((IntKind.i64.wrap (n.tmod ((tn (pg l a).snd.fst).length : Int) + ((tn (pg l a).snd.fst).length : Int))).tmod ((tn (pg l a).snd.fst).length : Int)).toNat (IntKind.u8.wrap ↑(BitVec.ofInt 8 ((tn (pg l a).snd.fst).getD ((IntKind.i64.wrap (n.tmod ((tn (pg l a).snd.fst).length : Int) + ((tn (pg l a).snd.fst).length : Int))).tmod ((tn (pg l a).snd.fst).length : Int)).toNat 0) ^^^ BitVec.ofInt 8 1).toNat)), (([] ++ l).getD a.toNat (Ty.bool.pair (Ty.str.pair Ty.bool)).dflt).snd.snd)).getD a.toNat (Ty.bool.pair (Ty.str.pair Ty.bool)).dflt).fst, ((([] ++ l).set a.toNat ((([] ++ l).getD a.toNat (Ty.bool.pair (Ty.str.pair Ty.bool)).dflt).fst, un ((tn (pg l a).snd.fst).set ((IntKind.i64.wrap (n.tmod ((tn (pg l a).snd.fst).length : Int) + ((tn (pg l a).snd.fst).length : Int))).tmod ((tn (pg l a).snd.fst).length : Int)).toNat (IntKind.u8.wrap ↑(BitVec.ofInt 8 ((tn (pg l a).snd.fst).getD ((IntKind.i64.wrap (n.tmod ((tn (pg l a).snd.fst).length : Int) + ((tn (pg l a).snd.fst).length : Int))).tmod ((tn (pg l a).snd.fst).length : Int)).toNat 0) ^^^ BitVec.ofInt 8 1).toNat)), (([] ++ l).getD a.toNat (Ty.bool.pair (Ty.str.pair Ty.bool)).dflt).snd.snd)).getD a.toNat (Ty.bool.pair (Ty.str.pair Ty.bool)).dflt).snd.fst, true)), I64 0]))))))))))))))))))))))
 (.leaf (Stop.done (SV.tuple [SV.list Pk [], I64 9])))
theorem spo (l : List PkT) (a : Int) (n : Int) : segR (Env.of Try.prog (sumOf [])) 1000 (fnOf Try.prog 22) Pk (keepS 63 []) (codeS Try.prog 22) spo_p (startS Try.prog 22 [.list Pk l, I64 a, I64 n]) [] = spo_t l a n := by kernel_rfl
def spoR_p : Plan := .fork (.lit (.lit (.lit (.lit (.lit (.all)))))) (.lit (.lit (.lit (.lit (.fork (.all) (.fork (.lit (.lit (.lit (.lit (.lit (.lit (.lit (.all)))))))) (.lit (.lit (.lit (.lit (.lit (.lit (.fork (.all) (.fork (.fork (.all) (.all)) (.fork (.all) (.all))))))))))))))))
noncomputable def spoR_t (l : List PkT) (a : Int) (n : Int) : Tree Stop :=
   .node (decide (a < 0))
 (.leaf (Stop.done (SV.tuple [SV.list Pk [], I64 9])))
 (.node (decide (a ≥ (l.length : Int)))
  (.leaf (Stop.done (SV.tuple [SV.list Pk [], I64 9])))
  (.req (decide (0 ≤ a) && decide (a < (l.length : Int))) (.node ((pg l a).snd.snd)
    (.leaf (Stop.done (SV.tuple [SV.list Pk [], I64 14])))
    (.req (decide (0 ≤ a) && decide (a < (l.length : Int))) (.node ((pg l a).snd.fst == [])
      (.leaf (Stop.done (SV.tuple [SV.list Pk [], I64 14])))
      (.req (decide (0 ≤ a) && decide (a < (l.length : Int))) (.req (!((tn (pg l a).snd.fst).length : Int) == 0) (.node (decide (n.tmod ((tn (pg l a).snd.fst).length : Int) < 0))
         (.req (decide (0 ≤ IntKind.i64.wrap (n.tmod ((tn (pg l a).snd.fst).length : Int) + ((tn (pg l a).snd.fst).length : Int))) && decide (IntKind.i64.wrap (n.tmod ((tn (pg l a).snd.fst).length : Int) + ((tn (pg l a).snd.fst).length : Int)) < ((tn (pg l a).snd.fst).length : Int))) (.req (decide ((IntKind.i64.wrap (n.tmod ((tn (pg l a).snd.fst).length : Int) + ((tn (pg l a).snd.fst).length : Int))).toNat < (tn (pg l a).snd.fst).length)) (.req (decide (0 ≤ IntKind.i64.wrap (n.tmod ((tn (pg l a).snd.fst).length : Int) + ((tn (pg l a).snd.fst).length : Int))) && decide (IntKind.i64.wrap (n.tmod ((tn (pg l a).snd.fst).length : Int) + ((tn (pg l a).snd.fst).length : Int)) < ((tn (pg l a).snd.fst).length : Int))) (.req (decide ((IntKind.i64.wrap (n.tmod ((tn (pg l a).snd.fst).length : Int) + ((tn (pg l a).snd.fst).length : Int))).toNat < (tn (pg l a).snd.fst).length)) (.node ((l).isEmpty)
              (.req (decide (0 ≤ a) && decide (a < (l.length : Int))) (.req (decide (0 ≤ a) && decide (a < 0)) (.fail 6)))
              (.req (decide ((0 + (l).length) * 32 ≤ 140737488355328)) (.req (decide (0 ≤ a) && decide (a < (l.length : Int))) (.req (decide (0 ≤ a) && decide (a < ↑([] ++ l).length)) (.req (decide (a.toNat < ([] ++ l).length)) (.leaf (Stop.done (SV.tuple [SV.list Pk (([] ++ l).set a.toNat ((pg l a).fst, un ((tn (pg l a).snd.fst).set (IntKind.i64.wrap (n.tmod ((tn (pg l a).snd.fst).length : Int) + ((tn (pg l a).snd.fst).length : Int))).toNat (IntKind.u8.wrap ↑(BitVec.ofInt 8 ((tn (pg l a).snd.fst).getD (IntKind.i64.wrap (n.tmod ((tn (pg l a).snd.fst).length : Int) + ((tn (pg l a).snd.fst).length : Int))).toNat 0) ^^^ BitVec.ofInt 8 1).toNat)), true)), I64 0]))))))))))))
         (.req (decide (0 ≤ n.tmod ((tn (pg l a).snd.fst).length : Int)) && decide (n.tmod ((tn (pg l a).snd.fst).length : Int) < ((tn (pg l a).snd.fst).length : Int))) (.req (decide ((n.tmod ((tn (pg l a).snd.fst).length : Int)).toNat < (tn (pg l a).snd.fst).length)) (.req (decide (0 ≤ n.tmod ((tn (pg l a).snd.fst).length : Int)) && decide (n.tmod ((tn (pg l a).snd.fst).length : Int) < ((tn (pg l a).snd.fst).length : Int))) (.req (decide ((n.tmod ((tn (pg l a).snd.fst).length : Int)).toNat < (tn (pg l a).snd.fst).length)) (.node ((l).isEmpty)
              (.req (decide (0 ≤ a) && decide (a < (l.length : Int))) (.req (decide (0 ≤ a) && decide (a < 0)) (.fail 6)))
              (.req (decide ((0 + (l).length) * 32 ≤ 140737488355328)) (.req (decide (0 ≤ a) && decide (a < (l.length : Int))) (.req (decide (0 ≤ a) && decide (a < ↑([] ++ l).length)) (.req (decide (a.toNat < ([] ++ l).length)) (.leaf (Stop.done (SV.tuple [SV.list Pk (([] ++ l).set a.toNat ((pg l a).fst, un ((tn (pg l a).snd.fst).set (n.tmod ((tn (pg l a).snd.fst).length : Int)).toNat (IntKind.u8.wrap ↑(BitVec.ofInt 8 ((tn (pg l a).snd.fst).getD (n.tmod ((tn (pg l a).snd.fst).length : Int)).toNat 0) ^^^ BitVec.ofInt 8 1).toNat)), true)), I64 0]))))))))))))))))))))
theorem spoR (l : List PkT) (a : Int) (n : Int) : segR (Env.of Try.prog (sumOf [])) 1000 (fnOf Try.prog 23) Pk (keepS 71 []) (codeS Try.prog 23) spoR_p (startS Try.prog 23 [.list Pk l, I64 a, I64 n]) [] = spoR_t l a n := by kernel_rfl
def smp0_p : Plan := .fork (.all) (.all)
noncomputable def smp0_t (l k : List PkT) : Tree Stop :=
   .node ((l.length : Int) != ↑k.length)
 (.leaf (Stop.done (SV.bool false)))
 (.leaf (Stop.at (loopOf Try.prog 24 0) 26 (slotsS 26 [(0, SV.list Pk l), (1, SV.list Pk k), (5, I64 0)]) []))
theorem smp0 (l k : List PkT) : segR (Env.of Try.prog (sumOf [])) 1000 (fnOf Try.prog 24) .unit (keepS 26 [0,1,5]) (codeS Try.prog 24) smp0_p (startS Try.prog 24 [.list Pk l, .list Pk k]) [] = smp0_t l k := by kernel_rfl
def smp1_p : Plan := .fork (.fork (.all) (.all)) (.all)
noncomputable def smp1_t (l k : List PkT) (i : Int) : Tree Stop :=
   .node (decide (i < (l.length : Int)))
 (.req (decide (0 ≤ i) && decide (i < (l.length : Int))) (.req (decide (0 ≤ i) && decide (i < ↑k.length)) (.node (!((pg l i).fst == (pg k i).fst && ((pg l i).snd.fst == (pg k i).snd.fst && ((pg l i).snd.snd == (pg k i).snd.snd && true))))
    (.leaf (Stop.done (SV.bool false)))
    (.leaf (Stop.at (loopOf Try.prog 24 0) 26 (slotsS 26 [(0, SV.list Pk l), (1, SV.list Pk k), (5, I64 (IntKind.i64.wrap (i + 1)))]) [])))))
 (.leaf (Stop.done (SV.bool true)))
theorem smp1 (l k : List PkT) (i : Int) : segR (Env.of Try.prog (sumOf [])) 1000 (fnOf Try.prog 24) .unit (keepS 26 [0,1,5]) (loopOf Try.prog 24 0) smp1_p (slotsS 26 [(0, .list Pk l), (1, .list Pk k), (5, I64 i)]) [] = smp1_t l k i := by kernel_rfl
end Go.Proofs.Ytibpodgdondakaa
set_option linter.unusedSimpArgs false
set_option linter.unusedVariables false
set_option maxRecDepth 100000
namespace Go.Proofs.Ytibpodgdondakaa
open Go.Sx

theorem few2_iff {n : Nat} : few2 n = true ↔ (n : Int) ≤ 100000 := by simp [few2]

/-! ### Is there a packet -/

theorem s_prs (l : List PkT) (a : Int) : SCall Try.prog 55 [.list Pk l, I64 a] (.bool (inB l a)) := by
  refine scallR_loops rfl rfl (by kernel_rfl) (runsR_seg (hK (l := []) trivial) (n := 1000) (hint := .unit) (keep := keepS 13 []) (p := prs_p) (boxes := []) rfl ?_)
  have e := prs l a
  unfold startS codeS at e
  erw [e]
  unfold prs_t inB
  simp only [Tree.holds, decide_eq_true_eq, decide_eq_false_iff_not]
  exact ⟨fun h => by rw [decide_eq_true h]; rfl, fun h => by rw [decide_eq_false h]; rfl⟩
theorem inB_iff {l : List PkT} {a : Int} : inB l a = true ↔ 0 ≤ a ∧ a < l.length := by simp [inB]
theorem inB_not {l : List PkT} {a : Int} (h : ¬ (0 ≤ a ∧ a < l.length)) : inB l a = false := by
  rw [← Bool.not_eq_true]; exact fun e => h (inB_iff.1 e)

/-! ### A packet arrives -/

def delV (l : List PkT) (a : Int) : PkT × (List PkT × Int) := if inB l a = true then (pg l a, (l.eraseIdx a.toNat, 0)) else (zPk, ([], 9))
def pkS (p : PkT) : SV := .agg [.bool p.1, .str p.2.1, .bool p.2.2]
def delS (r : PkT × (List PkT × Int)) : SV := .tuple [pkS r.1, .list Pk r.2.1, I64 r.2.2]

theorem s_dlv (l : List PkT) (a : Int) (hf : few2 l.length = true) : SCall Try.prog 18 [.list Pk l, I64 a] (delS (delV l a)) := by
  have hlen := few2_iff.1 hf
  refine scallR_loops rfl rfl (by kernel_rfl) (runsR_seg (hKW (l := []) trivial) (n := 1000) (hint := Pk) (keep := keepS 22 []) (p := dlv_p) (boxes := []) rfl ?_)
  have e := dlv l a
  unfold startS codeS at e
  erw [e]
  unfold dlv_t
  have bad : ¬ (0 ≤ a ∧ a < l.length) → SV.tuple [SV.agg [SV.bool false, SV.str [], SV.bool false], SV.list Pk [], I64 9] = delS (delV l a) := fun h => by
    unfold delV; rw [if_neg (by rw [inB_not h]; simp)]; rfl
  simp only [Tree.holds, decide_eq_true_eq, decide_eq_false_iff_not, Bool.not_eq_true', Bool.not_eq_false', Bool.and_eq_true, List.isEmpty_eq_false_iff, List.isEmpty_iff, beq_iff_eq, List.nil_append]
  refine ⟨fun h0 => ⟨fun h1 => bad (by omega), fun h1 => ?_⟩, fun h0 => bad (by omega)⟩
  have hne : l ≠ [] := fun c => by subst c; simp at h1; omega
  refine ⟨⟨h0, h1⟩, hne, fun c => absurd c hne, fun _ => ⟨by omega, ⟨⟨h0, h1⟩, wrap64 (by omega) (by omega)⟩, ?_⟩⟩
  unfold delV
  rw [if_pos (inB_iff.2 ⟨h0, h1⟩)]
  rfl

theorem dlvR_loop (l : List PkT) (a : Int) (ha : 0 ≤ a ∧ a < l.length) (hf : few2 l.length = true) : ∀ s : List PkT × Int, (0 ≤ s.2 ∧ s.2 ≤ l.length ∧ s.1 = if a < s.2 then (l.take s.2.toNat).eraseIdx a.toNat else l.take s.2.toNat) →
    RunsR Try.prog (fnOf Try.prog 19) (delS (delV l a)) (loopOf Try.prog 19 0) (slotsS 39 [(0, .list Pk l), (1, I64 a), (4, .ptr 0 0), (7, .row 1), (8, I64 s.2)]) [some (.cells [.bool false, .str [], .bool false]), some (.rows Pk s.1)] := by
  have hlen := few2_iff.1 hf
  refine runsR_of (hK (l := []) trivial) (n := 1000) (hint := Pk) rfl (fun s : List PkT × Int => 0 ≤ s.2 ∧ s.2 ≤ l.length ∧ s.1 = if a < s.2 then (l.take s.2.toNat).eraseIdx a.toNat else l.take s.2.toNat) (fun s => ((l.length : Int) - s.2).toNat) (keepS 39 [0, 1, 4, 7, 8]) (fun _ => loopOf Try.prog 19 0)
    (fun s => slotsS 39 [(0, .list Pk l), (1, I64 a), (4, .ptr 0 0), (7, .row 1), (8, I64 s.2)]) (fun s => [some (.cells [.bool false, .str [], .bool false]), some (.rows Pk s.1)]) (fun _ => dlvR1_p) fun s hs => ?_
  obtain ⟨o, i⟩ := s
  obtain ⟨h0, h1, h2⟩ := hs
  dsimp only at h0 h1 h2 ⊢
  rw [dlvR1]
  unfold dlvR1_t
  have hol : o.length ≤ l.length := by
    rw [h2]; split
    · exact Nat.le_trans (List.length_eraseIdx_le ..) (by rw [List.length_take]; omega)
    · rw [List.length_take]; omega
  simp only [Tree.holds, decide_eq_true_eq, decide_eq_false_iff_not, Bool.not_eq_true', Bool.not_eq_false', Bool.and_eq_true, bne_iff_ne, bne_eq_false_iff_eq]
  refine ⟨fun c => ?_, fun c => ⟨ha, ?_⟩⟩
  · obtain ⟨g1, g2, g3⟩ := pg_drop h0 c
    rw [wrap64 (by omega) (by omega)]
    refine ⟨fun d => ⟨⟨h0, c⟩, by simp; omega, slotsS_len _ _, .inl ⟨(o ++ [pg l i], i + 1), ⟨by dsimp only; omega, by dsimp only; omega, ?_⟩, by dsimp only; omega, by trivial, rfl, rfl⟩⟩, fun d => ⟨slotsS_len _ _, .inl ⟨(o, i + 1), ⟨by dsimp only; omega, by dsimp only; omega, ?_⟩, by dsimp only; omega, by trivial, rfl, rfl⟩⟩⟩
    · dsimp only
      rw [g3, h2]
      by_cases e : a < i
      · rw [if_pos e, if_pos (by omega), List.eraseIdx_append_of_lt_length (by rw [List.length_take]; omega)]
      · rw [if_neg e, if_neg (by omega)]
    · subst d
      dsimp only
      rw [g3, h2, if_neg (by omega), if_pos (by omega), List.eraseIdx_append_of_length_le (by rw [List.length_take]; omega)]
      have : i.toNat - (l.take i.toNat).length = 0 := by rw [List.length_take]; omega
      rw [this]; simp
  · have : l.take i.toNat = l := List.take_of_length_le (by omega)
    rw [this, if_pos (by omega)] at h2
    unfold delV
    rw [if_pos (inB_iff.2 ha), h2]
    rfl
theorem s_dlvR (l : List PkT) (a : Int) (hf : few2 l.length = true) : SCall Try.prog 19 [.list Pk l, I64 a] (delS (delV l a)) := by
  refine scallR_loops rfl rfl (by kernel_rfl) (runsR_seg (hK (l := []) trivial) (n := 1000) (hint := Pk) (keep := keepS 39 [0, 1, 4, 7, 8]) (p := dlvR0_p) (boxes := []) rfl ?_)
  have e := dlvR0 l a
  unfold startS codeS at e
  erw [e]
  unfold dlvR0_t
  have bad : ¬ (0 ≤ a ∧ a < l.length) → SV.tuple [SV.agg [SV.bool false, SV.str [], SV.bool false], SV.list Pk [], I64 9] = delS (delV l a) := fun h => by
    unfold delV; rw [if_neg (by rw [inB_not h]; simp)]; rfl
  simp only [Tree.holds, decide_eq_true_eq, decide_eq_false_iff_not]
  refine ⟨fun h0 => bad (by omega), fun h0 => ⟨fun h1 => bad (by omega), fun h1 => ⟨slotsS_len _ _, ?_⟩⟩⟩
  refine runsR_weak true [] (slots' := slotsS 39 [(0, .list Pk l), (1, I64 a), (4, .ptr 0 0), (7, .row 1), (8, I64 0)]) (boxes' := [some (.cells [.bool false, .str [], .bool false]), some (.rows Pk [])])
    (slotsS_wk ⟨rfl, .same _, rfl, .same _, rfl, .same _, rfl, .nil rfl, rfl, .same _, trivial⟩) ⟨List.not_mem_nil, .same _, trivial⟩ ?_
  exact dlvR_loop l a (by omega) hf ([], 0) ⟨Int.le_refl 0, by omega, by rw [if_neg (by omega)]; rfl⟩
def fDlv : Fact := factP 18 fun l a => .leaf (.tuple [.agg [.bool (delV l a).1.1, .str (delV l a).1.2.1, .bool (delV l a).1.2.2], .list Pk (delV l a).2.1, I64 (delV l a).2.2])
def fDlvR : Fact := factP 19 fun l a => .leaf (.tuple [.agg [.bool (delV l a).1.1, .str (delV l a).1.2.1, .bool (delV l a).1.2.2], .list Pk (delV l a).2.1, I64 (delV l a).2.2])
theorem o_dlv : fDlv.ok Try.prog := factP_ok s_dlv
theorem o_dlvR : fDlvR.ok Try.prog := factP_ok s_dlvR

/-! ### A packet is doubled -/

def dblV (l : List PkT) (a : Int) : List PkT × Int := if inB l a = true then (if (l.length : Int) ≥ 64 then ([], 18) else (l ++ [pg l a], 0)) else ([], 9)
def lsS (r : List PkT × Int) : SV := .tuple [.list Pk r.1, I64 r.2]
theorem s_dbl (l : List PkT) (a : Int) (hf : few2 l.length = true) : SCall Try.prog 20 [.list Pk l, I64 a] (lsS (dblV l a)) := by
  have hlen := few2_iff.1 hf
  refine scallR_loops rfl rfl (by kernel_rfl) (runsR_seg (hK (l := []) trivial) (n := 1000) (hint := Pk) (keep := keepS 23 []) (p := dbl_p) (boxes := []) rfl ?_)
  have e := dbl l a
  unfold startS codeS at e
  erw [e]
  unfold dbl_t
  have bad : ¬ (0 ≤ a ∧ a < l.length) → SV.tuple [SV.list Pk [], I64 9] = lsS (dblV l a) := fun h => by
    unfold dblV; rw [if_neg (by rw [inB_not h]; simp)]; rfl
  simp only [Tree.holds, decide_eq_true_eq, decide_eq_false_iff_not, Bool.not_eq_true', Bool.not_eq_false', Bool.and_eq_true, List.isEmpty_eq_false_iff, List.isEmpty_iff, beq_iff_eq, List.nil_append]
  refine ⟨fun h0 => ⟨fun h1 => bad (by omega), fun h1 => ⟨fun h2 => ?_, fun h2 => ?_⟩⟩, fun h0 => bad (by omega)⟩
  · unfold dblV; rw [if_pos (inB_iff.2 ⟨h0, h1⟩), if_pos h2]; rfl
  have hne : l ≠ [] := fun c => by subst c; simp at h1; omega
  refine ⟨hne, fun c => absurd c hne, fun _ => ⟨by omega, ⟨h0, h1⟩, by simp; omega, ?_⟩⟩
  unfold dblV
  rw [if_pos (inB_iff.2 ⟨h0, h1⟩), if_neg h2]
  rfl
theorem s_dblR (l : List PkT) (a : Int) (hf : few2 l.length = true) : SCall Try.prog 21 [.list Pk l, I64 a] (lsS (dblV l a)) := by
  have hlen := few2_iff.1 hf
  refine scallR_loops rfl rfl (by kernel_rfl) (runsR_seg (hK (l := []) trivial) (n := 1000) (hint := Pk) (keep := keepS 29 []) (p := dblR_p) (boxes := []) rfl ?_)
  have e := dblR l a
  unfold startS codeS at e
  erw [e]
  unfold dblR_t
  have bad : ¬ (0 ≤ a ∧ a < l.length) → SV.tuple [SV.list Pk [], I64 9] = lsS (dblV l a) := fun h => by
    unfold dblV; rw [if_neg (by rw [inB_not h]; simp)]; rfl
  simp only [Tree.holds, decide_eq_true_eq, decide_eq_false_iff_not, Bool.not_eq_true', Bool.not_eq_false', Bool.and_eq_true, List.isEmpty_eq_false_iff, List.isEmpty_iff, beq_iff_eq, List.nil_append]
  refine ⟨fun h0 => bad (by omega), fun h0 => ⟨fun h1 => bad (by omega), fun h1 => ⟨fun h2 => ?_, fun h2 => ?_⟩⟩⟩
  · unfold dblV; rw [if_pos (inB_iff.2 ⟨by omega, by omega⟩), if_pos h2]; rfl
  have hne : l ≠ [] := fun c => by subst c; simp at h1; omega
  refine ⟨fun c => absurd c hne, fun _ => ⟨by omega, ⟨by omega, by omega⟩, by simp; omega, ?_⟩⟩
  unfold dblV
  rw [if_pos (inB_iff.2 ⟨by omega, by omega⟩), if_neg h2]
  rfl
def fDbl : Fact := factP 20 fun l a => .leaf (.tuple [.list Pk (dblV l a).1, I64 (dblV l a).2])
def fDblR : Fact := factP 21 fun l a => .leaf (.tuple [.list Pk (dblV l a).1, I64 (dblV l a).2])
theorem o_dbl : fDbl.ok Try.prog := factP_ok s_dbl
theorem o_dblR : fDblR.ok Try.prog := factP_ok s_dblR

/-! ### A packet is spoilt -/

theorem tn_len (s : List UInt8) : (tn s).length = s.length := by simp [tn]
theorem un_set (s : List UInt8) (k : Nat) (hk : k < s.length) : un ((tn s).set k (IntKind.u8.wrap ↑(BitVec.ofInt 8 ((tn s).getD k 0) ^^^ BitVec.ofInt 8 1).toNat)) = s.set k (s.getD k 0 ^^^ 1) := by
  have hg : (tn s).getD k 0 = ((s.getD k 0).toNat : Int) := by
    simp only [tn, List.getD_eq_getElem?_getD, List.getElem?_map, List.getElem?_eq_getElem hk]; rfl
  rw [hg]
  have h1 : BitVec.ofInt 8 1 = BitVec.ofInt 8 ((1 : UInt8).toNat : Int) := rfl
  rw [h1, xor8]
  unfold un tn
  rw [List.map_set, List.map_map]
  congr 1
  · conv => rhs; rw [← List.map_id s]
    refine List.map_congr_left fun b _ => ?_
    simp
  · simp
theorem tmod_plus {n L : Int} (hL : 0 < L) : (n.tmod L = n % L ∨ n.tmod L = n % L - L) ∧ 0 ≤ n % L ∧ n % L < L ∧ (n.tmod L < 0 → n.tmod L = n % L - L) ∧ (¬ n.tmod L < 0 → n.tmod L = n % L) := by
  have h1 := Int.emod_nonneg n (show L ≠ 0 by omega)
  have h2 := Int.emod_lt_of_pos n hL
  have h3 := Int.tmod_eq_emod (a := n) (b := L)
  have h4 : (n.tmod L = n % L ∨ n.tmod L = n % L - L) := by
    rw [h3]; split
    · left; omega
    · right; omega
  refine ⟨h4, h1, h2, fun h => ?_, fun h => ?_⟩ <;> omega
theorem tmod_twice {n L : Int} (hL : 0 < L) : (n.tmod L + L).tmod L = n % L := by
  obtain ⟨h1, h2, h3, _⟩ := tmod_plus (n := n) hL
  have h4 : 0 ≤ n.tmod L + L := by omega
  rw [Int.tmod_eq_emod_of_nonneg h4]
  rcases h1 with h | h
  · rw [h, Int.add_emod_right, Int.emod_emod_of_dvd _ (Int.dvd_refl L)]
  · rw [h, show n % L - L + L = n % L by omega, Int.emod_emod_of_dvd _ (Int.dvd_refl L)]

def spoV (l : List PkT) (a n : Int) : List PkT × Int := if inB l a = true then (if (pg l a).2.2 = true ∨ (pg l a).2.1 = [] then ([], 14) else (l.set a.toNat ((pg l a).1, (chg (pg l a).2.1 (n % ((pg l a).2.1.length : Int)) 1, true)), 0)) else ([], 9)
theorem chg_eq {s : List UInt8} {k : Int} : s.set k.toNat (s.getD k.toNat 0 ^^^ 1) = chg s k 1 := rfl

theorem s_spo (l : List PkT) (a n : Int) (hf : few2 l.length = true) (hs : small (pg l a).2.1 = true) : SCall Try.prog 22 [.list Pk l, I64 a, I64 n] (lsS (spoV l a n)) := by
  have hlen := few2_iff.1 hf
  refine scallR_loops rfl rfl (by kernel_rfl) (runsR_seg (hK (l := []) trivial) (n := 1000) (hint := Pk) (keep := keepS 63 []) (p := spo_p) (boxes := []) rfl ?_)
  have e := spo l a n
  unfold startS codeS at e
  erw [e]
  unfold spo_t
  have bad : ¬ (0 ≤ a ∧ a < l.length) → SV.tuple [SV.list Pk [], I64 9] = lsS (spoV l a n) := fun h => by
    unfold spoV; rw [if_neg (by rw [inB_not h]; simp)]; rfl
  simp only [Tree.holds, decide_eq_true_eq, decide_eq_false_iff_not, Bool.not_eq_true', Bool.not_eq_false', Bool.and_eq_true, List.isEmpty_eq_false_iff, List.isEmpty_iff, beq_iff_eq, beq_eq_false_iff_ne, List.nil_append, tn_len]
  refine ⟨fun h0 => ⟨fun h1 => bad (by omega), fun h1 => ⟨⟨h0, h1⟩, fun h2 => ?_, fun h2 => ⟨⟨h0, h1⟩, fun h3 => ?_, fun h3 => ?_⟩⟩⟩, fun h0 => bad (by omega)⟩
  · unfold spoV; rw [if_pos (inB_iff.2 ⟨h0, h1⟩), if_pos (.inl h2)]; rfl
  · unfold spoV; rw [if_pos (inB_iff.2 ⟨h0, h1⟩), if_pos (.inr h3)]; rfl
  have hne : l ≠ [] := fun c => by subst c; simp at h1; omega
  have hL : 0 < ((pg l a).2.1.length : Int) := by
    have : (pg l a).2.1.length ≠ 0 := fun c => h3 (List.eq_nil_of_length_eq_zero c)
    omega
  have hs' := small_iff.1 hs
  obtain ⟨t1, t2, t3, _⟩ := tmod_plus (n := n) hL
  have ew : IntKind.i64.wrap (n.tmod ((pg l a).2.1.length : Int) + ((pg l a).2.1.length : Int)) = n.tmod ((pg l a).2.1.length : Int) + ((pg l a).2.1.length : Int) := wrap64 (by omega) (by omega)
  simp only [ew, tmod_twice hL]
  refine ⟨hne, fun c => absurd c hne, fun _ => ⟨by omega, ⟨h0, h1⟩, by omega, by omega, ⟨t2, t3⟩, by omega, ⟨t2, t3⟩, by omega, ?_⟩⟩
  have hat : a.toNat < l.length := by omega
  have hk : (n % ((pg l a).2.1.length : Int)).toNat < (pg l a).2.1.length := by omega
  simp only [List.length_set, un_set _ _ hk, chg_eq]
  refine ⟨⟨h0, h1⟩, hat, ⟨h0, h1⟩, hat, ?_⟩
  unfold spoV
  rw [if_pos (inB_iff.2 ⟨h0, h1⟩), if_neg (by rw [h2]; simpa using h3)]
  have gx : ∀ x d : PkT, (l.set a.toNat x).getD a.toNat d = x := fun x d => by
    rw [List.getD_eq_getElem?_getD, List.getElem?_set_self hat]; rfl
  have fin : ∀ x d : PkT, SV.tuple [SV.list Pk ((l.set a.toNat x).set a.toNat (((l.set a.toNat x).getD a.toNat d).1, (((l.set a.toNat x).getD a.toNat d).2.1, true))), I64 0] = SV.tuple [SV.list Pk (l.set a.toNat (x.1, (x.2.1, true))), I64 0] := fun x d => by
    rw [gx, List.set_set]
  exact fin _ _
theorem s_spoR (l : List PkT) (a n : Int) (hf : few2 l.length = true) (hs : small (pg l a).2.1 = true) : SCall Try.prog 23 [.list Pk l, I64 a, I64 n] (lsS (spoV l a n)) := by
  have hlen := few2_iff.1 hf
  refine scallR_loops rfl rfl (by kernel_rfl) (runsR_seg (hK (l := []) trivial) (n := 1000) (hint := Pk) (keep := keepS 71 []) (p := spoR_p) (boxes := []) rfl ?_)
  have e := spoR l a n
  unfold startS codeS at e
  erw [e]
  unfold spoR_t
  have bad : ¬ (0 ≤ a ∧ a < l.length) → SV.tuple [SV.list Pk [], I64 9] = lsS (spoV l a n) := fun h => by
    unfold spoV; rw [if_neg (by rw [inB_not h]; simp)]; rfl
  simp only [Tree.holds, decide_eq_true_eq, decide_eq_false_iff_not, Bool.not_eq_true', Bool.not_eq_false', Bool.and_eq_true, List.isEmpty_eq_false_iff, List.isEmpty_iff, beq_iff_eq, beq_eq_false_iff_ne, List.nil_append, tn_len]
  refine ⟨fun h0 => bad (by omega), fun h0 => ⟨fun h1 => bad (by omega), fun h1 => ⟨⟨by omega, by omega⟩, fun h2 => ?_, fun h2 => ⟨⟨by omega, by omega⟩, fun h3 => ?_, fun h3 => ?_⟩⟩⟩⟩
  · unfold spoV; rw [if_pos (inB_iff.2 ⟨by omega, by omega⟩), if_pos (.inl h2)]; rfl
  · unfold spoV; rw [if_pos (inB_iff.2 ⟨by omega, by omega⟩), if_pos (.inr h3)]; rfl
  have hne : l ≠ [] := fun c => by subst c; simp at h1; omega
  have hL : 0 < ((pg l a).2.1.length : Int) := by
    have : (pg l a).2.1.length ≠ 0 := fun c => h3 (List.eq_nil_of_length_eq_zero c)
    omega
  have hs' := small_iff.1 hs
  obtain ⟨t1, t2, t3, t4, t5⟩ := tmod_plus (n := n) hL
  have hat : a.toNat < l.length := by omega
  have hk : (n % ((pg l a).2.1.length : Int)).toNat < (pg l a).2.1.length := by omega
  have fin : SV.tuple [SV.list Pk (l.set a.toNat ((pg l a).1, (chg (pg l a).2.1 (n % ((pg l a).2.1.length : Int)) 1, true))), I64 0] = lsS (spoV l a n) := by
    unfold spoV
    rw [if_pos (inB_iff.2 ⟨by omega, by omega⟩), if_neg (by rw [h2]; simpa using h3)]; rfl
  refine ⟨⟨by omega, by omega⟩, by omega, fun h4 => ?_, fun h4 => ?_⟩
  · have ew : IntKind.i64.wrap (n.tmod ((pg l a).2.1.length : Int) + ((pg l a).2.1.length : Int)) = n % ((pg l a).2.1.length : Int) := by
      rw [t4 h4, wrap64 (by omega) (by omega)]; omega
    simp only [ew, un_set _ _ hk, chg_eq]
    exact ⟨⟨t2, t3⟩, by omega, ⟨t2, t3⟩, by omega, fun c => absurd c hne, fun _ => ⟨by omega, ⟨by omega, by omega⟩, ⟨by omega, by omega⟩, hat, fin⟩⟩
  · simp only [t5 h4, un_set _ _ hk, chg_eq]
    exact ⟨⟨t2, t3⟩, by omega, ⟨t2, t3⟩, by omega, fun c => absurd c hne, fun _ => ⟨by omega, ⟨by omega, by omega⟩, ⟨by omega, by omega⟩, hat, fin⟩⟩
def fSpo : Fact := factPI 22 fun l a n => .req (small (pg l a).2.1) (.leaf (.tuple [.list Pk (spoV l a n).1, I64 (spoV l a n).2]))
def fSpoR : Fact := factPI 23 fun l a n => .req (small (pg l a).2.1) (.leaf (.tuple [.list Pk (spoV l a n).1, I64 (spoV l a n).2]))
theorem o_spo : fSpo.ok Try.prog := factPI_ok fun l a n hf hs => s_spo l a n hf hs
theorem o_spoR : fSpoR.ok Try.prog := factPI_ok fun l a n hf hs => s_spoR l a n hf hs

/-! ### Packets that are the same -/

theorem s_smp (l : List PkT) (hf : few2 l.length = true) : SCall Try.prog 24 [.list Pk l, .list Pk l] (.bool true) := by
  have hlen := few2_iff.1 hf
  refine scallR_loops rfl rfl (by kernel_rfl) (runsR_seg (hK (l := []) trivial) (n := 1000) (hint := .unit) (keep := keepS 26 [0, 1, 5]) (p := smp0_p) (boxes := []) rfl ?_)
  have e := smp0 l l
  unfold startS codeS at e
  erw [e]
  unfold smp0_t
  simp only [Tree.holds, bne_self_eq_false, Bool.false_eq_true, false_implies, true_implies, true_and]
  refine ⟨slotsS_len _ _, ?_⟩
  have loop : ∀ i : Int, (0 ≤ i ∧ i ≤ l.length) → RunsR Try.prog (fnOf Try.prog 24) (.bool true) (loopOf Try.prog 24 0) (slotsS 26 [(0, .list Pk l), (1, .list Pk l), (5, I64 i)]) [] := by
    refine runsR_of (hK (l := []) trivial) (n := 1000) (hint := .unit) rfl (fun i : Int => 0 ≤ i ∧ i ≤ l.length) (fun i => ((l.length : Int) - i).toNat) (keepS 26 [0, 1, 5]) (fun _ => loopOf Try.prog 24 0) (fun i => slotsS 26 [(0, .list Pk l), (1, .list Pk l), (5, I64 i)]) (fun _ => []) (fun _ => smp1_p) fun i hi => ?_
    obtain ⟨h0, hl⟩ := hi
    rw [smp1]
    unfold smp1_t
    simp only [Tree.holds, decide_eq_true_eq, decide_eq_false_iff_not, Bool.and_eq_true, beq_self_eq_true, Bool.and_self, Bool.not_true, Bool.false_eq_true, false_implies, true_implies, true_and]
    refine ⟨fun h1 => ⟨⟨h0, h1⟩, ⟨h0, h1⟩, slotsS_len _ _, .inl ?_⟩, fun _ => trivial⟩
    rw [wrap64 (by omega) (by omega)]
    exact ⟨i + 1, ⟨by omega, by omega⟩, by omega, by trivial⟩
  exact loop 0 ⟨Int.le_refl 0, by omega⟩
def fSmp : Fact := factPP 24 fun l k => .req (decide (l = k)) (.leaf (.bool true))
theorem o_smp : fSmp.ok Try.prog := factPP_ok fun l k hf hlk => by
  have := of_decide_eq_true hlk
  subst this; exact s_smp l hf
end Go.Proofs.Ytibpodgdondakaa
set_option linter.unusedSimpArgs false
set_option linter.unusedVariables false
set_option maxRecDepth 100000
namespace Go.Proofs.Ytibpodgdondakaa
open Go.Sx

abbrev Mv : Ty := .pair (.int .i64) (.pair (.int .i64) (.int .i64))
abbrev MvT : Type := Int × (Int × Int)
def mg (l : List MvT) (i : Int) : MvT := l.getD i.toNat (0, (0, 0))
def er (n : List PkT) (a : Int) : List PkT := ([] ++ n).eraseIdx a.toNat
/-- The cells of a wire: host, device, its rows. -/
def wCells (g : Ho) (w : Int) : List SV := [.list .str g.ls, I64 g.ba, I64 g.ne, I64 g.wi, I64 g.re, I64 g.se, I64 w, .row 2, .row 3]
theorem hKR {l : List Fact} (h : allOk Try.prog l) : Known Try.prog (Env.ofR Try.prog (sumOf l) (wrOf [wDel]) (rdOf [18, 20, 22])) := known_ofR mix h.all (w_one wDel_ok) _
end Go.Proofs.Ytibpodgdondakaa
set_option linter.unusedSimpArgs false
set_option linter.unusedVariables false
set_option maxRecDepth 100000
namespace Go.Proofs.Ytibpodgdondakaa
open Go.Sx

structure Wi where
  g : Ho
  w : Int
  n : List PkT
  o : List (List UInt8)

/-- A packet in transit: a frame of a line, an answer that was true, or spoilt and of no use. -/
def Gd (ls : List (List UInt8)) (w : Int) (p : PkT) : Prop :=
  small p.2.1 = true ∧
  (p.2.2 = false → (p.1 = false ∧ ∃ k : Int, 1 ≤ k ∧ k ≤ ls.length ∧ p.2.1 = (frame k (gt ls (k - 1))).1) ∨
    (p.1 = true ∧ ∃ k : Int, (p.2.1 = repl wOk k ∧ 0 ≤ k ∧ k + 1 ≤ w) ∨ (p.2.1 = repl wRe k ∧ 0 ≤ k ∧ k ≤ w))) ∧
  (p.2.2 = true → (p.1 = false → (opn p.2.1).2.2 ≠ 0) ∧ (p.1 = true → aB p.2.1 = false))

structure Inv (ls : List (List UInt8)) (W : Wi) : Prop where
  few : (ls.length : Int) ≤ 20
  sm : smallsB ls = true
  sd : sendsB ls = true
  lsE : W.g.ls = ls
  ok : hostP W.g
  wE : W.w = W.o.length + 1
  oE : W.o = ls.take W.o.length
  ol : W.o.length ≤ ls.length
  ba : W.g.ba ≤ W.w
  nl : (W.n.length : Int) ≤ 30
  gd : ∀ p ∈ W.n, Gd ls W.w p

theorem Inv.valid {ls : List (List UInt8)} {W : Wi} (h : Inv ls W) : validB W.g = true := by
  unfold validB; rw [h.lsE, h.sd, decide_eq_true h.ok]; rfl
theorem Inv.smalls {ls : List (List UInt8)} {W : Wi} (h : Inv ls W) : smallsB W.g.ls = true := by rw [h.lsE]; exact h.sm
theorem Gd.mono {ls : List (List UInt8)} {w w' : Int} {p : PkT} (hw : w ≤ w') (h : Gd ls w p) : Gd ls w' p := by
  obtain ⟨h1, h2, h3⟩ := h
  refine ⟨h1, fun hs => ?_, h3⟩
  rcases h2 hs with h | ⟨hb, k, ⟨e, h0, h4⟩ | ⟨e, h0, h4⟩⟩
  · exact .inl h
  · exact .inr ⟨hb, k, .inl ⟨e, h0, by omega⟩⟩
  · exact .inr ⟨hb, k, .inr ⟨e, h0, by omega⟩⟩

theorem repl_small {v : List UInt8} (hv : v.length ≤ 6) (k : Int) : small (repl v k) = true := by
  have h1 := fmt_len k
  have h2 := fmt_len (xr (v ++ [32] ++ fmt k))
  rw [small_iff]; unfold repl; simp only [List.length_append, List.length_cons, List.length_nil]; omega

theorem repl_read {v : List UInt8} {k : Int} (hv : v = wOk ∨ v = wRe) (h0 : 0 ≤ k) (h1 : k ≤ MC + 1) : aB (repl v k) = true ∧ aW (repl v k) = v ∧ aN (repl v k) = k := by
  obtain ⟨h2, h3, _⟩ := rpl_of hv h0 h1
  simp only [rplB, Bool.and_eq_true, beq_iff_eq] at h2
  exact ⟨h2.1, h2.2, h3⟩

theorem frame_gt {ls : List (List UInt8)} (hs : sendsB ls = true) (hf : (ls.length : Int) ≤ 20) {k : Int} (h0 : 1 ≤ k) (h1 : k ≤ ls.length) : (frame k (gt ls (k - 1))).2 = 0 ∧ opn (frame k (gt ls (k - 1))).1 = (k, gt ls (k - 1), 0) ∧ small (frame k (gt ls (k - 1))).1 = true := by
  have hMC := MC_eq
  obtain ⟨g1, g2⟩ := sends_get hs (i := k - 1) (by omega) (by omega)
  have hfr := frame_of (n := k) h0 (by omega) g1 g2
  exact ⟨hfr, open_frame hfr, frame_small k (by omega)⟩

theorem take_next {ls o : List (List UInt8)} (ho : o = ls.take o.length) (h : o.length < ls.length) : o ++ [gt ls (o.length : Int)] = ls.take (o ++ [gt ls (o.length : Int)]).length := by
  obtain ⟨_, _, g3⟩ := gt_drop (l := ls) (i := (o.length : Int)) (by omega) (by omega)
  simp only [List.length_append, List.length_cons, List.length_nil]
  have e : ((o.length : Int) + 1).toNat = o.length + 1 := by omega
  have e2 : ((o.length : Int)).toNat = o.length := by omega
  rw [e, e2] at g3
  rw [g3, ← ho]

section
variable {ls : List (List UInt8)} {W : Wi}

/-- The host sends. -/
theorem Inv.send (h : Inv ls W) (hs : sndB W.g = true) : Inv ls { W with g := sndV W.g } ∧ ((W.n.length : Int) < 30 → Inv ls { W with g := sndV W.g, n := W.n ++ [(false, (sndT W.g, false))] }) := by
  have hMC := MC_eq
  obtain ⟨y1, y2⟩ := snd_yes hs
  have hp := h.ok
  have hb := h.ba
  have hls := h.lsE
  unfold sndB at hs
  simp only [Bool.and_eq_true, Bool.not_eq_true', beq_eq_false_iff_ne, decide_eq_false_iff_not] at hs
  have k1 : Inv ls { W with g := sndV W.g } := by
    rw [y1]
    refine ⟨h.few, h.sm, h.sd, hls, ?_, h.wE, h.oE, h.ol, hb, h.nl, h.gd⟩
    unfold hostP at hp ⊢
    dsimp only
    have hm : 0 ≤ moreV W.g.se ∧ moreV W.g.se ≤ MC := by unfold moreV; split <;> omega
    omega
  refine ⟨k1, fun hn => ⟨k1.few, k1.sm, k1.sd, k1.lsE, k1.ok, k1.wE, k1.oE, k1.ol, k1.ba, by dsimp only; simp; omega, fun p hp' => ?_⟩⟩
  dsimp only at hp' ⊢
  rcases List.mem_append.1 hp' with hp' | hp'
  · exact h.gd p hp'
  · rw [List.mem_singleton.1 hp', y2, hls]
    unfold hostP at hp
    rw [hls] at hp hs
    obtain ⟨f1, f2, f3⟩ := frame_gt h.sd h.few (k := W.g.ne) (by omega) (by omega)
    exact ⟨f3, fun _ => .inl ⟨rfl, W.g.ne, by omega, by omega, rfl⟩, fun c => by cases c⟩

theorem Inv.less (h : Inv ls W) {n : List PkT} (hn : ∀ p ∈ n, p ∈ W.n) (hl : n.length ≤ W.n.length) : Inv ls { W with n := n } :=
  ⟨h.few, h.sm, h.sd, h.lsE, h.ok, h.wE, h.oE, h.ol, h.ba, by have := h.nl; dsimp only; omega, fun p hp => h.gd p (hn p hp)⟩

theorem er_eq (n : List PkT) (a : Int) : er n a = n.eraseIdx a.toNat := by unfold er; rw [List.nil_append]
theorem er_mem {n : List PkT} {a : Int} : ∀ p ∈ er n a, p ∈ n := by
  intro p hp; rw [er_eq] at hp; exact List.mem_of_mem_eraseIdx hp

/-- A packet is lost. -/
theorem Inv.lose (h : Inv ls W) (a : Int) : Inv ls { W with n := er W.n a } :=
  h.less er_mem (by rw [er_eq]; exact List.length_eraseIdx_le ..)

/-- The answer to a packet, and what the device makes of it. -/
theorem Inv.take (h : Inv ls W) {p : PkT} (hp : p ∈ W.n) : validB (ansV W.g p.1 p.2.1) = true ∧ hostP (ansV W.g p.1 p.2.1) ∧ (ansV W.g p.1 p.2.1).ls = ls ∧ (ansV W.g p.1 p.2.1).ba ≤ (rcv W.w p.1 p.2.1).1 ∧ W.w ≤ (rcv W.w p.1 p.2.1).1 ∧
    ((rcv W.w p.1 p.2.1).2.2.2.2 = false → (rcv W.w p.1 p.2.1).1 = W.w) ∧
    ((rcv W.w p.1 p.2.1).2.2.2.2 = true → (rcv W.w p.1 p.2.1).1 = W.w + 1 ∧ W.o.length < ls.length ∧ (rcv W.w p.1 p.2.1).2.1 = gt ls (W.o.length : Int)) ∧
    ((rcv W.w p.1 p.2.1).2.2.1 = true → Gd ls (rcv W.w p.1 p.2.1).1 (true, ((rcv W.w p.1 p.2.1).2.2.2.1, false))) := by
  have hMC := MC_eq
  have hv := h.valid
  have hw := h.wE
  have hol := h.ol
  have hfew := h.few
  have hba := h.ba
  have hok := h.ok
  have hok' := hok
  unfold hostP at hok'
  have hls := h.lsE
  obtain ⟨b, t, sp⟩ := p
  obtain ⟨hsm, hg, hb⟩ := h.gd _ hp
  dsimp only at hsm hg hb ⊢
  have hw0 : ¬ (W.w < 1 ∨ W.w > MC + 1 ∨ false = true) := by
    intro c
    rcases c with c | c | c
    · omega
    · omega
    · cases c
  cases b with
  | true =>
    -- an answer
    have hr : rcv W.w true t = (W.w, ([], (false, ([], false)))) := by unfold rcv; rw [if_pos (.inr (.inr rfl))]
    rw [hr]
    have key : hostP (ansV W.g true t) ∧ (ansV W.g true t).ba ≤ W.w := by
      cases hsp : sp with
      | true =>
        have := (hb hsp).2 rfl
        rw [ans_no (.inr (.inr this))]
        exact ⟨hok, hba⟩
      | false =>
        rcases hg hsp with ⟨c, _⟩ | ⟨_, k, ⟨e, h0, h1⟩ | ⟨e, h0, h1⟩⟩
        · cases c
        · obtain ⟨r1, r2, r3⟩ := repl_read (v := wOk) (.inl rfl) h0 (by omega)
          rw [← e] at r1 r2 r3
          have hno : ¬ (validB W.g = false ∨ true = false ∨ aB t = false) := by rw [hv, r1]; simp
          unfold ansV
          rw [if_neg hno, if_pos r2, r3]
          split
          · unfold hostP
            dsimp only
            rw [hls] at hok' ⊢
            constructor
            · repeat' split
              all_goals omega
            · split <;> omega
          · exact ⟨hok, hba⟩
        · obtain ⟨r1, r2, r3⟩ := repl_read (v := wRe) (.inr rfl) h0 (by omega)
          rw [← e] at r1 r2 r3
          have hno : ¬ (validB W.g = false ∨ true = false ∨ aB t = false) := by rw [hv, r1]; simp
          have hne : ¬ aW t = wOk := by rw [r2]; decide
          unfold ansV
          rw [if_neg hno, if_neg hne, r3]
          split
          · rename_i hc
            have hm : 0 ≤ moreV W.g.re ∧ moreV W.g.re ≤ MC := by unfold moreV; split <;> omega
            unfold hostP
            dsimp only
            rw [hls] at hok' ⊢
            omega
          · exact ⟨hok, hba⟩
    have hl : (ansV W.g true t).ls = ls := by rw [ans_ls, hls]
    exact ⟨by unfold validB; rw [hl, h.sd, decide_eq_true key.1]; rfl, key.1, hl, key.2, Int.le_refl _, fun _ => rfl, fun c => (by cases c), fun c => (by cases c)⟩
  | false =>
    have ha : ansV W.g false t = W.g := ans_no (.inr (.inl rfl))
    rw [ha]
    have bad : rcv W.w false t = (W.w, ([], (true, (repl wRe W.w, false)))) → validB W.g = true ∧ hostP W.g ∧ W.g.ls = ls ∧ W.g.ba ≤ (rcv W.w false t).1 ∧ W.w ≤ (rcv W.w false t).1 ∧
        ((rcv W.w false t).2.2.2.2 = false → (rcv W.w false t).1 = W.w) ∧
        ((rcv W.w false t).2.2.2.2 = true → (rcv W.w false t).1 = W.w + 1 ∧ W.o.length < ls.length ∧ (rcv W.w false t).2.1 = gt ls (W.o.length : Int)) ∧
        ((rcv W.w false t).2.2.1 = true → Gd ls (rcv W.w false t).1 (true, ((rcv W.w false t).2.2.2.1, false))) := by
      intro e
      rw [e]
      exact ⟨hv, hok, hls, hba, Int.le_refl _, fun _ => rfl, fun c => (by cases c), fun _ => ⟨repl_small (by decide) _, fun _ => .inr ⟨rfl, W.w, .inr ⟨rfl, by omega, Int.le_refl _⟩⟩, fun c => (by cases c)⟩⟩
    cases hsp : sp with
    | true =>
      have := (hb hsp).1 rfl
      exact bad (by unfold rcv; rw [if_neg hw0, if_pos (.inl this)])
    | false =>
      rcases hg hsp with ⟨_, k, h0, h1, e⟩ | ⟨c, _⟩
      · obtain ⟨f1, f2, f3⟩ := frame_gt h.sd h.few h0 h1
        rw [← e] at f2
        by_cases hk : k > W.w
        · exact bad (by unfold rcv; rw [if_neg hw0, f2, if_pos (.inr hk)])
        · have hno : ¬ ((0 : Int) ≠ 0 ∨ k > W.w) := by omega
          by_cases hk2 : k < W.w
          · have hr : rcv W.w false t = (W.w, ([], (true, (repl wOk (W.w - 1), false)))) := by
              unfold rcv; rw [if_neg hw0, f2]; dsimp only; rw [if_neg hno, if_pos hk2, wrap64 (by omega) (by omega)]
            rw [hr]
            exact ⟨hv, hok, hls, hba, Int.le_refl _, fun _ => rfl, fun c => (by cases c), fun _ => ⟨repl_small (by decide) _, fun _ => .inr ⟨rfl, W.w - 1, .inl ⟨rfl, by omega, by omega⟩⟩, fun c => (by cases c)⟩⟩
          · have hkw : k = W.w := by omega
            have hr : rcv W.w false t = (W.w + 1, (gt ls (k - 1), (true, (repl wOk k, true)))) := by
              unfold rcv; rw [if_neg hw0, f2]; dsimp only; rw [if_neg hno, if_neg hk2, wrap64 (by omega) (by omega)]
            rw [hr]
            refine ⟨hv, hok, hls, by dsimp only; omega, by dsimp only; omega, fun c => (by cases c), fun _ => ⟨rfl, by omega, ?_⟩, fun _ => ⟨repl_small (by decide) _, fun _ => .inr ⟨rfl, k, .inl ⟨rfl, by omega, by dsimp only; omega⟩⟩, fun c => (by cases c)⟩⟩
            dsimp only
            rw [show k - 1 = (W.o.length : Int) by omega]
      · cases c

theorem pg_mem {n : List PkT} {a : Int} (h0 : 0 ≤ a) (h1 : a < n.length) : pg n a ∈ n := (pg_drop h0 h1).2.1

/-- A packet arrives. -/
theorem Inv.arrive (h : Inv ls W) {a : Int} (h0 : 0 ≤ a) (h1 : a < W.n.length) : Inv ls
    { g := ansV W.g (pg W.n a).1 (pg W.n a).2.1, w := (rcv W.w (pg W.n a).1 (pg W.n a).2.1).1,
      n := if (rcv W.w (pg W.n a).1 (pg W.n a).2.1).2.2.1 = true then er W.n a ++ [((rcv W.w (pg W.n a).1 (pg W.n a).2.1).2.2.1, ((rcv W.w (pg W.n a).1 (pg W.n a).2.1).2.2.2.1, false))] else er W.n a,
      o := if (rcv W.w (pg W.n a).1 (pg W.n a).2.1).2.2.2.2 = true then W.o ++ [(rcv W.w (pg W.n a).1 (pg W.n a).2.1).2.1] else W.o } := by
  obtain ⟨t1, t2, t3, t4, t5, t6, t7, t8⟩ := h.take (pg_mem h0 h1)
  have hel : (er W.n a).length + 1 = W.n.length := by rw [er_eq, List.length_eraseIdx, if_pos (by omega)]; omega
  have hw := h.wE
  refine ⟨h.few, h.sm, h.sd, t3, t2, ?_, ?_, ?_, t4, ?_, ?_⟩ <;> dsimp only
  · split
    · rename_i c; rw [(t7 c).1, hw]; simp
    · rename_i c; rw [t6 (by simpa using c)]; exact hw
  · split
    · rename_i c; rw [(t7 c).2.2]; exact take_next h.oE (t7 c).2.1
    · exact h.oE
  · split
    · rename_i c; have := (t7 c).2.1; simp; omega
    · exact h.ol
  · have := h.nl
    split
    · simp; omega
    · omega
  · intro p hp
    split at hp
    · rename_i c
      rcases List.mem_append.1 hp with hp | hp
      · exact (h.gd p (er_mem p hp)).mono t5
      · rw [List.mem_singleton.1 hp, c]
        exact t8 c
    · exact (h.gd p (er_mem p hp)).mono t5

/-- A packet is doubled. -/
theorem Inv.double (h : Inv ls W) {a : Int} (h0 : 0 ≤ a) (h1 : a < W.n.length) (hn : ((W.n ++ [pg W.n a]).length : Int) < 30) : Inv ls { W with n := W.n ++ [pg W.n a] } := by
  refine ⟨h.few, h.sm, h.sd, h.lsE, h.ok, h.wE, h.oE, h.ol, h.ba, by dsimp only; omega, fun p hp => ?_⟩
  dsimp only at hp
  rcases List.mem_append.1 hp with hp | hp
  · exact h.gd p hp
  · rw [List.mem_singleton.1 hp]; exact h.gd _ (pg_mem h0 h1)

/-- A packet is spoilt. -/
theorem Inv.spoil (h : Inv ls W) {a : Int} (h0 : 0 ≤ a) (h1 : a < W.n.length) (hs : (pg W.n a).2.2 = false) {k : Int} (hk0 : 0 ≤ k) (hk1 : k < (pg W.n a).2.1.length) :
    Inv ls { W with n := W.n.set a.toNat ((pg W.n a).1, (chg (pg W.n a).2.1 k 1, true)) } := by
  have hMC := MC_eq
  have hw := h.wE
  have hol := h.ol
  have hfew := h.few
  refine ⟨h.few, h.sm, h.sd, h.lsE, h.ok, h.wE, h.oE, h.ol, h.ba, by dsimp only; rw [List.length_set]; exact h.nl, fun p hp => ?_⟩
  dsimp only at hp ⊢
  rcases List.mem_or_eq_of_mem_set hp with hp | hp
  · exact h.gd p hp
  · have hc : UInt8.ofNat (1 : Int).toNat ≠ 0 := by decide
    obtain ⟨g1, g2, _⟩ := h.gd _ (pg_mem h0 h1)
    rw [hp]
    refine ⟨chg_small g1, fun c => (by cases c), fun _ => ?_⟩
    dsimp only
    rcases g2 hs with ⟨hb, j, j0, j1, e⟩ | ⟨hb, j, ⟨e, j0, j1⟩ | ⟨e, j0, j1⟩⟩
    · rw [hb]
      refine ⟨fun _ => ?_, fun c => (by cases c)⟩
      obtain ⟨f1, f2, f3⟩ := frame_gt h.sd h.few j0 j1
      rw [e] at hk1 ⊢
      exact open_changed f1 hk0 hk1 hc
    · rw [hb]
      refine ⟨fun c => (by cases c), fun _ => ?_⟩
      rw [e] at hk1 ⊢
      exact answer_changed (.inl rfl) j0 (by omega) hk0 hk1 hc
    · rw [hb]
      refine ⟨fun c => (by cases c), fun _ => ?_⟩
      rw [e] at hk1 ⊢
      exact answer_changed (.inr rfl) j0 (by omega) hk0 hk1 hc

/-- The host starts again. -/
theorem Inv.again (h : Inv ls W) : agaV W.g W.g.ba = ({ W.g with ne := W.g.ba }, 0) ∧ Inv ls { W with g := { W.g with ne := W.g.ba } } := by
  have hp := h.ok
  unfold hostP at hp
  refine ⟨?_, h.few, h.sm, h.sd, h.lsE, ?_, h.wE, h.oE, h.ol, h.ba, h.nl, h.gd⟩
  · unfold agaV
    rw [if_neg (by rw [h.valid]; simp; omega)]
  · unfold hostP; dsimp only; omega
end

/-- The beginning. -/
theorem Inv.start {ls : List (List UInt8)} {win : Int} (hf : (ls.length : Int) ≤ 20) (hs : smallsB ls = true) (h : (staV ls win).2 = 0) : Inv ls ⟨(staV ls win).1, 1, [], []⟩ ∧ (staV ls win).1.ls = ls := by
  have hMC := MC_eq
  unfold staV at h ⊢
  split at h
  · cases h
  · rename_i hc
    split at h
    · cases h
    · rename_i hc2
      rw [if_neg hc, if_neg hc2]
      have hsd : sendsB ls = true := by
        rcases Bool.eq_false_or_eq_true (sendsB ls) with e | e
        · exact e
        · exact absurd (.inl e) hc
      refine ⟨⟨hf, hs, hsd, rfl, ?_, rfl, rfl, Nat.zero_le _, Int.le_refl _, by simp, fun p hp => by cases hp⟩, rfl⟩
      unfold hostP; dsimp only; omega
end Go.Proofs.Ytibpodgdondakaa
