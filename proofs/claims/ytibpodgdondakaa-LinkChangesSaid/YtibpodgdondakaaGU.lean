/-
  GU: the law on changes. Written by gen.py.
-/
import Derived.Test.YtibpodgdondakaaGS
set_option linter.unusedSimpArgs false
set_option linter.unusedVariables false
set_option maxRecDepth 100000
namespace Go.Proofs.Ytibpodgdondakaa
open Go.Sx
theorem s_law6 (n : Int) (t : List UInt8) (k c : Int) (h : Ho)(hc : 0 ≤ c ∧ c ≤ 255) : SCall Try.prog 6 [I64 n, .str t, I64 k, .int .u8 c, h.sv] (.bool true) :=
  scall_v mix [fShort, fFrame, fOpen, fChg, fFew, fRecv, fAnsH, fSame, fAwake] ⟨o_short, o_frame, o_open, o_chg, o_few, o_recv, o_ansH, o_same, o_awake, trivial⟩ 1000 (.fork (.lit (.lit (.fork (.lit (.lit (.lit (.lit (.fork (.lit (.lit (.fork (.fork (.all) (.fork (.lit (.lit (.fork (.lit (.lit (.lit (.lit (.lit (.fork (.lit (.lit (.fork (.lit (.all)) (.all)))) (.lit (.lit (.lit (.all)))))))))) (.lit (.lit (.lit (.lit (.lit (.lit (.lit (.lit (.lit (.all))))))))))))) (.lit (.lit (.lit (.lit (.lit (.lit (.lit (.lit (.lit (.lit (.lit (.lit (.all))))))))))))))) (.fork (.lit (.lit (.fork (.lit (.lit (.lit (.lit (.lit (.fork (.lit (.lit (.fork (.lit (.all)) (.all)))) (.lit (.lit (.lit (.all)))))))))) (.lit (.lit (.lit (.lit (.lit (.lit (.lit (.lit (.lit (.all))))))))))))) (.lit (.lit (.lit (.lit (.lit (.lit (.lit (.lit (.lit (.lit (.lit (.lit (.all))))))))))))))))) (.lit (.lit (.lit (.fork (.lit (.lit (.fork (.lit (.lit (.lit (.lit (.lit (.fork (.lit (.lit (.fork (.lit (.all)) (.all)))) (.lit (.lit (.lit (.all)))))))))) (.lit (.lit (.lit (.lit (.lit (.lit (.lit (.lit (.lit (.all))))))))))))) (.lit (.lit (.lit (.lit (.lit (.lit (.lit (.lit (.lit (.lit (.lit (.lit (.all)))))))))))))))))))))) (.lit (.lit (.lit (.lit (.lit (.lit (.lit (.lit (.fork (.lit (.lit (.fork (.lit (.lit (.lit (.lit (.lit (.fork (.lit (.lit (.fork (.lit (.all)) (.all)))) (.lit (.lit (.lit (.all)))))))))) (.lit (.lit (.lit (.lit (.lit (.lit (.lit (.lit (.lit (.all))))))))))))) (.lit (.lit (.lit (.lit (.lit (.lit (.lit (.lit (.lit (.lit (.lit (.lit (.all))))))))))))))))))))))))) (.lit (.lit (.lit (.lit (.lit (.lit (.lit (.lit (.lit (.lit (.lit (.fork (.lit (.lit (.fork (.lit (.lit (.lit (.lit (.lit (.fork (.lit (.lit (.fork (.lit (.all)) (.all)))) (.lit (.lit (.lit (.all)))))))))) (.lit (.lit (.lit (.lit (.lit (.lit (.lit (.lit (.lit (.all))))))))))))) (.lit (.lit (.lit (.lit (.lit (.lit (.lit (.lit (.lit (.lit (.lit (.lit (.all))))))))))))))))))))))))))
   (t := .req (small (List.take 120 t)) (.node ((frame n (List.take 120 t)).snd == 0)
  (.node (decide (k ≥ 0))
   (.node (decide (k < ((frame n (List.take 120 t)).fst.length : Int)))
    (.node (c != 0)
     (.req (decide (0 ≤ k) && (decide (k < ((frame n (List.take 120 t)).fst.length : Int)) && (decide (0 ≤ c) && decide (c ≤ 255)))) (.req (small (chg (frame n (List.take 120 t)).fst k c)) (.node ((opn (chg (frame n (List.take 120 t)).fst k c)).snd.snd == 0)
        (.leaf (SV.bool false))
        (.req (true) (.node ((rcv n false [120]).snd.snd.fst)
          (.node (decide (k ≥ 0))
           (.node (decide (k < ((rcv n false [120]).snd.snd.snd.fst.length : Int)))
            (.node (c != 0)
             (.req (decide (0 ≤ k) && (decide (k < ((rcv n false [120]).snd.snd.snd.fst.length : Int)) && (decide (0 ≤ c) && decide (c ≤ 255)))) (.req (smallsB (fewL h.ls) && small (chg (rcv n false [120]).snd.snd.snd.fst k c)) (.req (sameL (ansV (Ho.mk (fewL h.ls) h.ba h.ne h.wi h.re h.se) (rcv n false [120]).snd.snd.fst (chg (rcv n false [120]).snd.snd.snd.fst k c)).ls (fewL h.ls) && ((ansV (Ho.mk (fewL h.ls) h.ba h.ne h.wi h.re h.se) (rcv n false [120]).snd.snd.fst (chg (rcv n false [120]).snd.snd.snd.fst k c)).ba == h.ba && ((ansV (Ho.mk (fewL h.ls) h.ba h.ne h.wi h.re h.se) (rcv n false [120]).snd.snd.fst (chg (rcv n false [120]).snd.snd.snd.fst k c)).ne == h.ne && ((ansV (Ho.mk (fewL h.ls) h.ba h.ne h.wi h.re h.se) (rcv n false [120]).snd.snd.fst (chg (rcv n false [120]).snd.snd.snd.fst k c)).wi == h.wi && ((ansV (Ho.mk (fewL h.ls) h.ba h.ne h.wi h.re h.se) (rcv n false [120]).snd.snd.fst (chg (rcv n false [120]).snd.snd.snd.fst k c)).re == h.re && ((ansV (Ho.mk (fewL h.ls) h.ba h.ne h.wi h.re h.se) (rcv n false [120]).snd.snd.fst (chg (rcv n false [120]).snd.snd.snd.fst k c)).se == h.se && few2 (ansV (Ho.mk (fewL h.ls) h.ba h.ne h.wi h.re h.se) (rcv n false [120]).snd.snd.fst (chg (rcv n false [120]).snd.snd.snd.fst k c)).ls.length)))))) (.leaf (SV.bool true)))))
             (.leaf (SV.bool true)))
            (.leaf (SV.bool true)))
           (.leaf (SV.bool true)))
          (.leaf (SV.bool true)))))))
     (.req (true) (.node ((rcv n false [120]).snd.snd.fst)
       (.node (decide (k ≥ 0))
        (.node (decide (k < ((rcv n false [120]).snd.snd.snd.fst.length : Int)))
         (.node (c != 0)
          (.req (decide (0 ≤ k) && (decide (k < ((rcv n false [120]).snd.snd.snd.fst.length : Int)) && (decide (0 ≤ c) && decide (c ≤ 255)))) (.req (smallsB (fewL h.ls) && small (chg (rcv n false [120]).snd.snd.snd.fst k c)) (.req (sameL (ansV (Ho.mk (fewL h.ls) h.ba h.ne h.wi h.re h.se) (rcv n false [120]).snd.snd.fst (chg (rcv n false [120]).snd.snd.snd.fst k c)).ls (fewL h.ls) && ((ansV (Ho.mk (fewL h.ls) h.ba h.ne h.wi h.re h.se) (rcv n false [120]).snd.snd.fst (chg (rcv n false [120]).snd.snd.snd.fst k c)).ba == h.ba && ((ansV (Ho.mk (fewL h.ls) h.ba h.ne h.wi h.re h.se) (rcv n false [120]).snd.snd.fst (chg (rcv n false [120]).snd.snd.snd.fst k c)).ne == h.ne && ((ansV (Ho.mk (fewL h.ls) h.ba h.ne h.wi h.re h.se) (rcv n false [120]).snd.snd.fst (chg (rcv n false [120]).snd.snd.snd.fst k c)).wi == h.wi && ((ansV (Ho.mk (fewL h.ls) h.ba h.ne h.wi h.re h.se) (rcv n false [120]).snd.snd.fst (chg (rcv n false [120]).snd.snd.snd.fst k c)).re == h.re && ((ansV (Ho.mk (fewL h.ls) h.ba h.ne h.wi h.re h.se) (rcv n false [120]).snd.snd.fst (chg (rcv n false [120]).snd.snd.snd.fst k c)).se == h.se && few2 (ansV (Ho.mk (fewL h.ls) h.ba h.ne h.wi h.re h.se) (rcv n false [120]).snd.snd.fst (chg (rcv n false [120]).snd.snd.snd.fst k c)).ls.length)))))) (.leaf (SV.bool true)))))
          (.leaf (SV.bool true)))
         (.leaf (SV.bool true)))
        (.leaf (SV.bool true)))
       (.leaf (SV.bool true)))))
    (.req (true) (.node ((rcv n false [120]).snd.snd.fst)
      (.node (decide (k ≥ 0))
       (.node (decide (k < ((rcv n false [120]).snd.snd.snd.fst.length : Int)))
        (.node (c != 0)
         (.req (decide (0 ≤ k) && (decide (k < ((rcv n false [120]).snd.snd.snd.fst.length : Int)) && (decide (0 ≤ c) && decide (c ≤ 255)))) (.req (smallsB (fewL h.ls) && small (chg (rcv n false [120]).snd.snd.snd.fst k c)) (.req (sameL (ansV (Ho.mk (fewL h.ls) h.ba h.ne h.wi h.re h.se) (rcv n false [120]).snd.snd.fst (chg (rcv n false [120]).snd.snd.snd.fst k c)).ls (fewL h.ls) && ((ansV (Ho.mk (fewL h.ls) h.ba h.ne h.wi h.re h.se) (rcv n false [120]).snd.snd.fst (chg (rcv n false [120]).snd.snd.snd.fst k c)).ba == h.ba && ((ansV (Ho.mk (fewL h.ls) h.ba h.ne h.wi h.re h.se) (rcv n false [120]).snd.snd.fst (chg (rcv n false [120]).snd.snd.snd.fst k c)).ne == h.ne && ((ansV (Ho.mk (fewL h.ls) h.ba h.ne h.wi h.re h.se) (rcv n false [120]).snd.snd.fst (chg (rcv n false [120]).snd.snd.snd.fst k c)).wi == h.wi && ((ansV (Ho.mk (fewL h.ls) h.ba h.ne h.wi h.re h.se) (rcv n false [120]).snd.snd.fst (chg (rcv n false [120]).snd.snd.snd.fst k c)).re == h.re && ((ansV (Ho.mk (fewL h.ls) h.ba h.ne h.wi h.re h.se) (rcv n false [120]).snd.snd.fst (chg (rcv n false [120]).snd.snd.snd.fst k c)).se == h.se && few2 (ansV (Ho.mk (fewL h.ls) h.ba h.ne h.wi h.re h.se) (rcv n false [120]).snd.snd.fst (chg (rcv n false [120]).snd.snd.snd.fst k c)).ls.length)))))) (.leaf (SV.bool true)))))
         (.leaf (SV.bool true)))
        (.leaf (SV.bool true)))
       (.leaf (SV.bool true)))
      (.leaf (SV.bool true)))))
   (.req (true) (.node ((rcv n false [120]).snd.snd.fst)
     (.node (decide (k ≥ 0))
      (.node (decide (k < ((rcv n false [120]).snd.snd.snd.fst.length : Int)))
       (.node (c != 0)
        (.req (decide (0 ≤ k) && (decide (k < ((rcv n false [120]).snd.snd.snd.fst.length : Int)) && (decide (0 ≤ c) && decide (c ≤ 255)))) (.req (smallsB (fewL h.ls) && small (chg (rcv n false [120]).snd.snd.snd.fst k c)) (.req (sameL (ansV (Ho.mk (fewL h.ls) h.ba h.ne h.wi h.re h.se) (rcv n false [120]).snd.snd.fst (chg (rcv n false [120]).snd.snd.snd.fst k c)).ls (fewL h.ls) && ((ansV (Ho.mk (fewL h.ls) h.ba h.ne h.wi h.re h.se) (rcv n false [120]).snd.snd.fst (chg (rcv n false [120]).snd.snd.snd.fst k c)).ba == h.ba && ((ansV (Ho.mk (fewL h.ls) h.ba h.ne h.wi h.re h.se) (rcv n false [120]).snd.snd.fst (chg (rcv n false [120]).snd.snd.snd.fst k c)).ne == h.ne && ((ansV (Ho.mk (fewL h.ls) h.ba h.ne h.wi h.re h.se) (rcv n false [120]).snd.snd.fst (chg (rcv n false [120]).snd.snd.snd.fst k c)).wi == h.wi && ((ansV (Ho.mk (fewL h.ls) h.ba h.ne h.wi h.re h.se) (rcv n false [120]).snd.snd.fst (chg (rcv n false [120]).snd.snd.snd.fst k c)).re == h.re && ((ansV (Ho.mk (fewL h.ls) h.ba h.ne h.wi h.re h.se) (rcv n false [120]).snd.snd.fst (chg (rcv n false [120]).snd.snd.snd.fst k c)).se == h.se && few2 (ansV (Ho.mk (fewL h.ls) h.ba h.ne h.wi h.re h.se) (rcv n false [120]).snd.snd.fst (chg (rcv n false [120]).snd.snd.snd.fst k c)).ls.length)))))) (.leaf (SV.bool true)))))
        (.leaf (SV.bool true)))
       (.leaf (SV.bool true)))
      (.leaf (SV.bool true)))
     (.leaf (SV.bool true)))))
  (.req (true) (.node ((rcv n false [120]).snd.snd.fst)
    (.node (decide (k ≥ 0))
     (.node (decide (k < ((rcv n false [120]).snd.snd.snd.fst.length : Int)))
      (.node (c != 0)
       (.req (decide (0 ≤ k) && (decide (k < ((rcv n false [120]).snd.snd.snd.fst.length : Int)) && (decide (0 ≤ c) && decide (c ≤ 255)))) (.req (smallsB (fewL h.ls) && small (chg (rcv n false [120]).snd.snd.snd.fst k c)) (.req (sameL (ansV (Ho.mk (fewL h.ls) h.ba h.ne h.wi h.re h.se) (rcv n false [120]).snd.snd.fst (chg (rcv n false [120]).snd.snd.snd.fst k c)).ls (fewL h.ls) && ((ansV (Ho.mk (fewL h.ls) h.ba h.ne h.wi h.re h.se) (rcv n false [120]).snd.snd.fst (chg (rcv n false [120]).snd.snd.snd.fst k c)).ba == h.ba && ((ansV (Ho.mk (fewL h.ls) h.ba h.ne h.wi h.re h.se) (rcv n false [120]).snd.snd.fst (chg (rcv n false [120]).snd.snd.snd.fst k c)).ne == h.ne && ((ansV (Ho.mk (fewL h.ls) h.ba h.ne h.wi h.re h.se) (rcv n false [120]).snd.snd.fst (chg (rcv n false [120]).snd.snd.snd.fst k c)).wi == h.wi && ((ansV (Ho.mk (fewL h.ls) h.ba h.ne h.wi h.re h.se) (rcv n false [120]).snd.snd.fst (chg (rcv n false [120]).snd.snd.snd.fst k c)).re == h.re && ((ansV (Ho.mk (fewL h.ls) h.ba h.ne h.wi h.re h.se) (rcv n false [120]).snd.snd.fst (chg (rcv n false [120]).snd.snd.snd.fst k c)).se == h.se && few2 (ansV (Ho.mk (fewL h.ls) h.ba h.ne h.wi h.re h.se) (rcv n false [120]).snd.snd.fst (chg (rcv n false [120]).snd.snd.snd.fst k c)).ls.length)))))) (.leaf (SV.bool true)))))
       (.leaf (SV.bool true)))
      (.leaf (SV.bool true)))
     (.leaf (SV.bool true)))
    (.leaf (SV.bool true))))))
   (by kernel_rfl) (by 
    have hs := fewL_smalls h.ls
    have s1 := small_take t
    have s3 := frame_small n (t := List.take 120 t) (by rw [List.length_take]; omega)
    have hMC := MC_eq
    have key := fun hf h0 hk hc => open_changed (n := n) (t := List.take 120 t) (k := k) (c := c) hf h0 hk hc
    have sL : ∀ l, sameL l l = true := fun l => by simp [sameL]
    have f0 : few2 (fewL h.ls).length = true := (few_smalls hs).1
    have hcn : c ≠ 0 → UInt8.ofNat c.toNat ≠ 0 := fun hn => c_ne hc.1 hc.2 hn
    have sr : small (rcv n false [120]).2.2.2.1 = true := by
      unfold rcv
      split
      · rfl
      · have hl : ∀ (w : List UInt8) (n : Int), w.length ≤ 6 → small (repl w n) = true := fun w n hw => by
          have h1 := fmt_len n
          have h2 := fmt_len (xr (w ++ [32] ++ fmt n))
          rw [small_iff]; unfold repl; simp only [List.length_append, List.length_cons, List.length_nil]; omega
        split
        · exact hl _ _ (by decide)
        · split
          · exact hl _ _ (by decide)
          · exact hl _ _ (by decide)
    have hB : (rcv n false [120]).2.2.1 = true → 0 ≤ k → k < ((rcv n false [120]).2.2.2.1.length : Int) → c ≠ 0 → ansV (Ho.mk (fewL h.ls) h.ba h.ne h.wi h.re h.se) (rcv n false [120]).2.2.1 (chg (rcv n false [120]).2.2.2.1 k c) = Ho.mk (fewL h.ls) h.ba h.ne h.wi h.re h.se := by
      intro hb h0 hk hn
      refine ans_no (.inr (.inr ?_))
      by_cases hw : n < 1 ∨ n > MC + 1 ∨ false = true
      · unfold rcv at hb; rw [if_pos hw] at hb; cases hb
      · have e : (rcv n false [120]).2.2.2.1 = repl wRe n := by unfold rcv; rw [if_neg hw, if_pos (.inl (by decide))]
        rw [e] at hk ⊢
        exact answer_changed (.inr rfl) (by omega) (by omega) h0 hk (hcn hn)
    clear hMC
    generalize rcv n false [120] = r at *
    refine ⟨s1, fun hf => ⟨fun h0 => ⟨fun hk => ⟨fun hn => ⟨?_, ?_, fun bad => ?_, fun _ => ?_⟩, fun _ => ?_⟩, fun _ => ?_⟩, fun _ => ?_⟩, fun _ => ?_⟩
    · simp only [Bool.and_eq_true, decide_eq_true_eq] at h0 hk ⊢; exact ⟨h0, hk, hc.1, hc.2⟩
    · exact chg_small s3
    · exact absurd (beq_iff_eq.1 bad) (key (beq_iff_eq.1 hf) (of_decide_eq_true h0) (of_decide_eq_true hk) (hcn (by simpa using hn)))
    all_goals
      refine ⟨rfl, fun b => ⟨fun h0 => ⟨fun hk => ⟨fun hn => ?_, fun _ => rfl⟩, fun _ => rfl⟩, fun _ => rfl⟩, fun _ => rfl⟩
      rw [hB b (of_decide_eq_true h0) (of_decide_eq_true hk) (by simpa using hn)]
      refine ⟨?_, ?_, ?_, rfl⟩
      · simp only [Bool.and_eq_true, decide_eq_true_eq] at h0 hk ⊢; exact ⟨h0, hk, hc.1, hc.2⟩
      · rw [hs, chg_small sr]; rfl
      · simp only [sL, f0, beq_self_eq_true, Bool.and_self]) (by kernel_rfl) (by kernel_rfl)
end Go.Proofs.Ytibpodgdondakaa
