/-
  GA: contracts of the device, and the laws. Written by gen.py.
-/
import Derived.Test.YtibpodgdondakaaGB
set_option linter.unusedSimpArgs false
set_option linter.unusedVariables false
set_option maxRecDepth 100000
namespace Go.Proofs.Ytibpodgdondakaa
open Go.Sx
theorem s_awake : SCall Try.prog 15 [] (.bool true) := scall_closed mix [fIx] ⟨o_ix, trivial⟩ 20000 .auto (by kernel_rfl) rfl rfl
theorem o_awake : fAwake.ok Try.prog := fact0_ok s_awake
theorem s_reply (w : List UInt8) (n : Int)(hw : decide ((w.length : Int) ≤ 100) = true) : SCall Try.prog 53 [.str w, I64 n] (.agg [.bool true, .str (repl w n), .bool false]) :=
  scall_v mix [fFmt, fMarked] ⟨o_fmt, o_marked, trivial⟩ 1000 (.all)
   (t := .req (decide (((w.length + 1 : Nat) : Int) ≤ (9223372036854775807 : Int))) (.req (decide ((((w ++ [32]).length + (fmt n).length : Nat) : Int) ≤ (9223372036854775807 : Int))) (.req (small (w ++ [32] ++ fmt n)) (.leaf (SV.agg [SV.bool true, SV.str (w ++ [32] ++ fmt n ++ [42] ++ fmt (xr (w ++ [32] ++ fmt n))), SV.bool false])))))
   (by kernel_rfl) (by 
    have h1 := fmt_len n
    have hw := of_decide_eq_true hw
    have hs : small (w ++ [32] ++ fmt n) = true := by rw [small_iff]; simp only [List.length_append, List.length_cons, List.length_nil]; omega
    simp only [Tree.holds, decide_eq_true_eq, List.length_append, List.length_cons, List.length_nil]
    exact ⟨by omega, by omega, hs, rfl⟩) (by kernel_rfl) (by kernel_rfl)
theorem s_Reply (w : List UInt8) (n : Int)(hw : decide ((w.length : Int) ≤ 100) = true) : SCall Try.prog 54 [.str w, I64 n] (.str (repl w n)) :=
  scall_v mix [fFmtR, fSealed] ⟨o_fmtR, o_sealed, trivial⟩ 1000 (.all)
   (t := .req (decide (((w.length + 1 : Nat) : Int) ≤ (9223372036854775807 : Int))) (.req (decide ((((w ++ [32]).length + (fmt n).length : Nat) : Int) ≤ (9223372036854775807 : Int))) (.req (small (w ++ [32] ++ fmt n)) (.leaf (SV.str (w ++ [32] ++ fmt n ++ [42] ++ fmt (xr (w ++ [32] ++ fmt n))))))))
   (by kernel_rfl) (by 
    have h1 := fmt_len n
    have hw := of_decide_eq_true hw
    have hs : small (w ++ [32] ++ fmt n) = true := by rw [small_iff]; simp only [List.length_append, List.length_cons, List.length_nil]; omega
    simp only [Tree.holds, decide_eq_true_eq, List.length_append, List.length_cons, List.length_nil]
    exact ⟨by omega, by omega, hs, rfl⟩) (by kernel_rfl) (by kernel_rfl)
theorem o_reply : fReply.ok Try.prog := fun args t ht => by
  simp only [fReply] at ht
  split at ht
  · injection ht with ht; subst ht; exact s_reply _ _
  · cases ht
theorem o_Reply : fReplyR.ok Try.prog := fun args t ht => by
  simp only [fReplyR] at ht
  split at ht
  · injection ht with ht; subst ht; exact s_Reply _ _
  · cases ht
theorem s_law3 (n : Int) (t s : List UInt8) : SCall Try.prog 3 [I64 n, .str t, .str s] (.bool true) :=
  scall_v mix [fShort, fFrame, fFrameR, fOpen, fOpenR, fAwake] ⟨o_short, o_frame, o_frameR, o_open, o_openR, o_awake, trivial⟩ 1000 (.fork (.lit (.lit (.lit (.lit (.lit (.lit (.lit (.lit (.lit (.lit (.lit (.lit (.lit (.lit (.lit (.lit (.all))))))))))))))))) (.lit (.lit (.lit (.fork (.lit (.lit (.lit (.lit (.lit (.lit (.lit (.lit (.lit (.lit (.lit (.lit (.all))))))))))))) (.lit (.lit (.lit (.fork (.lit (.lit (.lit (.lit (.lit (.lit (.lit (.lit (.all))))))))) (.lit (.lit (.lit (.fork (.lit (.lit (.lit (.lit (.all))))) (.lit (.lit (.lit (.fork (.all) (.fork (.lit (.lit (.lit (.lit (.lit (.lit (.lit (.lit (.lit (.all)))))))))) (.lit (.lit (.lit (.fork (.lit (.lit (.lit (.lit (.lit (.fork (.lit (.lit (.lit (.lit (.fork (.lit (.all)) (.lit (.all))))))) (.lit (.lit (.lit (.lit (.lit (.lit (.all))))))))))))) (.lit (.lit (.lit (.lit (.lit (.lit (.lit (.lit (.lit (.lit (.lit (.lit (.all)))))))))))))))))))))))))))))))))))
   (t := .req (small (List.take 120 t)) (.req (small (List.take 120 t)) (.req (small (List.take 120 s)) (.req (small (List.take 120 s)) (.node (!(frame n (List.take 120 t)).fst == (frame n (List.take 120 t)).fst)
     (.leaf (SV.bool false))
     (.node ((frame n (List.take 120 t)).snd != (frame n (List.take 120 t)).snd)
      (.leaf (SV.bool false))
      (.node ((opn (List.take 120 s)).fst != (opn (List.take 120 s)).fst)
       (.leaf (SV.bool false))
       (.node (!(opn (List.take 120 s)).snd.fst == (opn (List.take 120 s)).snd.fst)
        (.leaf (SV.bool false))
        (.node ((opn (List.take 120 s)).snd.snd != (opn (List.take 120 s)).snd.snd)
         (.leaf (SV.bool false))
         (.req (small (frame n (List.take 120 t)).fst) (.node ((frame n (List.take 120 t)).snd != 0)
           (.leaf (SV.bool true))
           (.node ((opn (frame n (List.take 120 t)).fst).fst == n)
            (.node ((opn (frame n (List.take 120 t)).fst).snd.fst == List.take 120 t)
             (.node ((opn (frame n (List.take 120 t)).fst).snd.snd == 0)
              (.leaf (SV.bool true))
              (.leaf (SV.bool false)))
             (.leaf (SV.bool false)))
            (.leaf (SV.bool false))))))))))))))
   (by kernel_rfl) (by 
    have s1 := small_take t
    have s2 := small_take s
    have s3 := frame_small n (t := List.take 120 t) (by rw [List.length_take]; omega)
    have key := open_frame (n := n) (t := List.take 120 t)
    generalize List.take 120 t = t at *
    generalize List.take 120 s = s at *
    simp only [Tree.holds, s1, s2, s3, bne_self_eq_false, beq_self_eq_true, Bool.not_true, Bool.false_eq_true, false_implies, true_implies, true_and, and_true, bne_iff_ne, bne_eq_false_iff_eq]
    refine ⟨fun _ => trivial, fun h => ?_⟩
    rw [key h]
    simp) (by kernel_rfl) (by kernel_rfl)
theorem s_receive (w : Int) (b : Bool) (t : List UInt8) (sp : Bool)(hs : small t = true) : SCall Try.prog 16 [.agg [I64 w], .agg [.bool b, .str t, .bool sp]] (rcvS (rcv w b t)) :=
  scall_v mix [fOpen, fReply] ⟨o_open, o_reply, trivial⟩ 1000 (.fork (.lit (.lit (.lit (.lit (.lit (.lit (.lit (.all)))))))) (.lit (.lit (.lit (.fork (.lit (.lit (.lit (.all)))) (.lit (.lit (.fork (.all) (.fork (.lit (.lit (.lit (.lit (.lit (.all)))))) (.lit (.lit (.lit (.lit (.fork (.all) (.fork (.all) (.all))))))))))))))))
   (t := .node (decide (w < 1))
 (.leaf (SV.tuple [SV.agg [I64 w], SV.str [], SV.agg [SV.bool false, SV.str [], SV.bool false], SV.bool false]))
 (.node (decide (w > (MC + 1)))
  (.leaf (SV.tuple [SV.agg [I64 w], SV.str [], SV.agg [SV.bool false, SV.str [], SV.bool false], SV.bool false]))
  (.node (b)
   (.leaf (SV.tuple [SV.agg [I64 w], SV.str [], SV.agg [SV.bool false, SV.str [], SV.bool false], SV.bool false]))
   (.req (small t) (.node ((opn t).snd.snd != 0)
     (.req (true) (.leaf (SV.tuple [SV.agg [I64 w], SV.str [], SV.agg [SV.bool true, SV.str (repl [114, 101, 115, 101, 110, 100] w), SV.bool false], SV.bool false])))
     (.node (decide ((opn t).fst > w))
      (.req (true) (.leaf (SV.tuple [SV.agg [I64 w], SV.str [], SV.agg [SV.bool true, SV.str (repl [114, 101, 115, 101, 110, 100] w), SV.bool false], SV.bool false])))
      (.node (decide ((opn t).fst < w))
       (.req (true) (.leaf (SV.tuple [SV.agg [I64 w], SV.str [], SV.agg [SV.bool true, SV.str (repl [111, 107] (IntKind.i64.wrap (w - 1))), SV.bool false], SV.bool false])))
       (.req (true) (.leaf (SV.tuple [SV.agg [I64 (IntKind.i64.wrap (w + 1))], SV.str (opn t).snd.fst, SV.agg [SV.bool true, SV.str (repl [111, 107] (opn t).fst), SV.bool false], SV.bool true]))))))))))
   (by kernel_rfl) (by 
    simp only [Tree.holds, decide_eq_true_eq, decide_eq_false_iff_not, bne_iff_ne, bne_eq_false_iff_eq, true_and]
    refine ⟨fun a => ?_, fun a => ⟨fun b1 => ?_, fun b1 => ⟨fun c => ?_, fun c => ⟨hs, fun d => ?_, fun d => ⟨fun e => ?_, fun e => ⟨fun f => ?_, fun f => ?_⟩⟩⟩⟩⟩⟩
    · rw [show rcv w b t = (w, [], false, [], false) from by unfold rcv; rw [if_pos (.inl a)]]; rfl
    · rw [show rcv w b t = (w, [], false, [], false) from by unfold rcv; rw [if_pos (.inr (.inl b1))]]; rfl
    · rw [show rcv w b t = (w, [], false, [], false) from by unfold rcv; rw [if_pos (.inr (.inr c))]]; rfl
    all_goals have hn : ¬ (w < 1 ∨ w > MC + 1 ∨ b = true) := by rw [c]; simp; omega
    · rw [show rcv w b t = (w, [], true, repl wRe w, false) from by unfold rcv; rw [if_neg hn, if_pos (.inl d)]]; rfl
    · rw [show rcv w b t = (w, [], true, repl wRe w, false) from by unfold rcv; rw [if_neg hn, if_pos (.inr e)]]; rfl
    all_goals have hm : ¬ ((opn t).2.2 ≠ 0 ∨ (opn t).1 > w) := fun h => h.elim (fun h => h d) e
    · rw [show rcv w b t = (w, [], true, repl wOk (IntKind.i64.wrap (w - 1)), false) from by unfold rcv; rw [if_neg hn, if_neg hm, if_pos f]]; rfl
    · rw [show rcv w b t = (IntKind.i64.wrap (w + 1), (opn t).2.1, true, repl wOk (opn t).1, true) from by unfold rcv; rw [if_neg hn, if_neg hm, if_neg f]]; rfl) (by kernel_rfl) (by kernel_rfl)
theorem s_receiveR (w : Int) (b : Bool) (t : List UInt8) (sp : Bool)(hs : small t = true) : SCall Try.prog 17 [.agg [I64 w], .agg [.bool b, .str t, .bool sp]] (rcvS (rcv w b t)) :=
  scall_v mix [fOpenR, fReplyR] ⟨o_openR, o_Reply, trivial⟩ 1000 (.fork (.lit (.lit (.lit (.lit (.lit (.lit (.lit (.all)))))))) (.lit (.lit (.lit (.fork (.lit (.lit (.lit (.all)))) (.lit (.lit (.fork (.all) (.fork (.lit (.lit (.lit (.lit (.lit (.all)))))) (.lit (.lit (.lit (.lit (.fork (.all) (.fork (.all) (.all))))))))))))))))
   (t := .node (decide (w < 1))
 (.leaf (SV.tuple [SV.agg [I64 w], SV.str [], SV.agg [SV.bool false, SV.str [], SV.bool false], SV.bool false]))
 (.node (decide (w > (MC + 1)))
  (.leaf (SV.tuple [SV.agg [I64 w], SV.str [], SV.agg [SV.bool false, SV.str [], SV.bool false], SV.bool false]))
  (.node (b)
   (.leaf (SV.tuple [SV.agg [I64 w], SV.str [], SV.agg [SV.bool false, SV.str [], SV.bool false], SV.bool false]))
   (.req (small t) (.node ((opn t).snd.snd != 0)
     (.req (true) (.leaf (SV.tuple [SV.agg [I64 w], SV.str [], SV.agg [SV.bool true, SV.str (repl [114, 101, 115, 101, 110, 100] w), SV.bool false], SV.bool false])))
     (.node (decide ((opn t).fst > w))
      (.req (true) (.leaf (SV.tuple [SV.agg [I64 w], SV.str [], SV.agg [SV.bool true, SV.str (repl [114, 101, 115, 101, 110, 100] w), SV.bool false], SV.bool false])))
      (.node (decide ((opn t).fst < w))
       (.req (true) (.leaf (SV.tuple [SV.agg [I64 w], SV.str [], SV.agg [SV.bool true, SV.str (repl [111, 107] (IntKind.i64.wrap (w - 1))), SV.bool false], SV.bool false])))
       (.req (true) (.leaf (SV.tuple [SV.agg [I64 (IntKind.i64.wrap (w + 1))], SV.str (opn t).snd.fst, SV.agg [SV.bool true, SV.str (repl [111, 107] (opn t).fst), SV.bool false], SV.bool true]))))))))))
   (by kernel_rfl) (by 
    simp only [Tree.holds, decide_eq_true_eq, decide_eq_false_iff_not, bne_iff_ne, bne_eq_false_iff_eq, true_and]
    refine ⟨fun a => ?_, fun a => ⟨fun b1 => ?_, fun b1 => ⟨fun c => ?_, fun c => ⟨hs, fun d => ?_, fun d => ⟨fun e => ?_, fun e => ⟨fun f => ?_, fun f => ?_⟩⟩⟩⟩⟩⟩
    · rw [show rcv w b t = (w, [], false, [], false) from by unfold rcv; rw [if_pos (.inl a)]]; rfl
    · rw [show rcv w b t = (w, [], false, [], false) from by unfold rcv; rw [if_pos (.inr (.inl b1))]]; rfl
    · rw [show rcv w b t = (w, [], false, [], false) from by unfold rcv; rw [if_pos (.inr (.inr c))]]; rfl
    all_goals have hn : ¬ (w < 1 ∨ w > MC + 1 ∨ b = true) := by rw [c]; simp; omega
    · rw [show rcv w b t = (w, [], true, repl wRe w, false) from by unfold rcv; rw [if_neg hn, if_pos (.inl d)]]; rfl
    · rw [show rcv w b t = (w, [], true, repl wRe w, false) from by unfold rcv; rw [if_neg hn, if_pos (.inr e)]]; rfl
    all_goals have hm : ¬ ((opn t).2.2 ≠ 0 ∨ (opn t).1 > w) := fun h => h.elim (fun h => h d) e
    · rw [show rcv w b t = (w, [], true, repl wOk (IntKind.i64.wrap (w - 1)), false) from by unfold rcv; rw [if_neg hn, if_neg hm, if_pos f]]; rfl
    · rw [show rcv w b t = (IntKind.i64.wrap (w + 1), (opn t).2.1, true, repl wOk (opn t).1, true) from by unfold rcv; rw [if_neg hn, if_neg hm, if_neg f]]; rfl) (by kernel_rfl) (by kernel_rfl)
theorem o_recv : fRecv.ok Try.prog := factDP_ok s_receive
theorem o_recvR : fRecvR.ok Try.prog := factDP_ok s_receiveR
theorem s_law4 (w : Int) (b : Bool) (t : List UInt8) (sp : Bool) : SCall Try.prog 4 [.agg [I64 w], .agg [.bool b, .str t, .bool sp]] (.bool true) :=
  scall_v mix [fShort, fRecv, fRecvR, fAwake] ⟨o_short, o_recv, o_recvR, o_awake, trivial⟩ 1000 (.fork (.lit (.lit (.lit (.fork (.lit (.lit (.lit (.fork (.lit (.lit (.lit (.fork (.lit (.all)) (.lit (.all)))))) (.lit (.lit (.lit (.lit (.lit (.all)))))))))) (.lit (.lit (.lit (.lit (.lit (.lit (.lit (.lit (.lit (.all)))))))))))))) (.lit (.lit (.lit (.lit (.lit (.lit (.lit (.lit (.lit (.lit (.lit (.lit (.lit (.all)))))))))))))))
   (t := .req (small (List.take 120 t)) (.req (small (List.take 120 t)) (.node ((rcv w b (List.take 120 t)).fst == (rcv w b (List.take 120 t)).fst && true)
   (.node ((rcv w b (List.take 120 t)).snd.fst == (rcv w b (List.take 120 t)).snd.fst)
    (.node ((rcv w b (List.take 120 t)).snd.snd.fst == (rcv w b (List.take 120 t)).snd.snd.fst && ((rcv w b (List.take 120 t)).snd.snd.snd.fst == (rcv w b (List.take 120 t)).snd.snd.snd.fst && true))
     (.node ((rcv w b (List.take 120 t)).snd.snd.snd.snd == (rcv w b (List.take 120 t)).snd.snd.snd.snd)
      (.leaf (SV.bool true))
      (.leaf (SV.bool false)))
     (.leaf (SV.bool false)))
    (.leaf (SV.bool false)))
   (.leaf (SV.bool false)))))
   (by kernel_rfl) (by 
    have s1 := small_take t
    simp [Tree.holds, s1]) (by kernel_rfl) (by kernel_rfl)
end Go.Proofs.Ytibpodgdondakaa
