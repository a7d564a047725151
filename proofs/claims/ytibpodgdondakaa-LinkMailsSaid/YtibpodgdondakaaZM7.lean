/-
  GY: the segments of the law on packets in transit. Written by gen.py.
  GZ: the law on packets in transit.
  LinkMails: the statement out of the contract. Written by shell.py.
-/
import Derived.Test.YtibpodgdondakaaZM6
import Derived.Test.YtibpodgdondakaaRows
import Derived.OpenShut
import Derived.ShutString
import Derived.ChangeOld
import Derived.Below
set_option linter.unusedSimpArgs false
set_option linter.unusedVariables false
set_option maxRecDepth 100000
namespace Go.Proofs.Ytibpodgdondakaa
open Go.Sx
def mls0_p : Plan := .all
noncomputable def mls0_t (l : List PkT) (a n : Int) : Tree Stop :=
   .leaf (Stop.at (loopOf Try.prog 5 0) 122 (slotsS 122 [(0, SV.list Pk l), (1, I64 a), (2, I64 n), (7, SV.nilS), (8, I64 0)]) [])
theorem mls0 (l : List PkT) (a n : Int) : segR (Env.of Try.prog (sumOf [fShort, fDlv, fDlvR, fDbl, fDblR, fSpo, fSpoR, fSmp, fAwake])) 1000 (fnOf Try.prog 5) .unit (keepS 122 [0,1,2,7,8]) (codeS Try.prog 5) mls0_p (startS Try.prog 5 [.list Pk l, I64 a, I64 n]) [] = mls0_t l a n := by kernel_rfl
def mls1_p : Plan := .fork (.lit (.lit (.fork (.all) (.all)))) (.lit (.lit (.lit (.all))))
noncomputable def mls1_t (l : List PkT) (a n : Int) (o : List PkT) (i : Int) : Tree Stop :=
   .node (decide (i < (l.length : Int)))
 (.node (decide (i < 70))
  (.req (decide (0 ≤ i) && decide (i < (l.length : Int))) (.req (decide ((o.length + [((pg l i).fst, List.take 120 (pg l i).snd.fst, (pg l i).snd.snd)].length) * 32 ≤ 140737488355328)) (.leaf (Stop.at (loopOf Try.prog 5 0) 122 (slotsS 122 [(0, SV.list Pk l), (1, I64 a), (2, I64 n), (7, SV.row 0), (8, I64 (IntKind.i64.wrap (i + 1)))]) [some (Box.rows Pk (o ++ [((pg l i).fst, List.take 120 (pg l i).snd.fst, (pg l i).snd.snd)]))]))))
  (.fail 141))
 (.fail 141)
theorem mls1 (l : List PkT) (a n : Int) (o : List PkT) (i : Int) : segR (Env.of Try.prog (sumOf [fShort, fDlv, fDlvR, fDbl, fDblR, fSpo, fSpoR, fSmp, fAwake])) 1000 (fnOf Try.prog 5) .unit (keepS 122 [0,1,2,7,8]) (loopOf Try.prog 5 0) mls1_p (slotsS 122 [(0, .list Pk l), (1, I64 a), (2, I64 n), (7, .row 0), (8, I64 i)]) [some (.rows Pk o)] = mls1_t l a n o i := by kernel_rfl
def mls2_p : Plan := .fork (.lit (.lit (.fork (.all) (.fork (.lit (.lit (.lit (.lit (.lit (.lit (.lit (.fork (.lit (.lit (.lit (.lit (.lit (.lit (.lit (.fork (.lit (.lit (.lit (.lit (.lit (.lit (.lit (.fork (.lit (.all)) (.lit (.all)))))))))) (.lit (.lit (.lit (.lit (.lit (.lit (.lit (.lit (.lit (.all)))))))))))))))))) (.lit (.lit (.lit (.lit (.lit (.lit (.lit (.lit (.lit (.lit (.lit (.lit (.lit (.lit (.lit (.lit (.lit (.all)))))))))))))))))))))))))) (.lit (.lit (.lit (.lit (.lit (.lit (.lit (.lit (.lit (.lit (.lit (.lit (.lit (.lit (.lit (.lit (.lit (.lit (.lit (.lit (.lit (.lit (.lit (.lit (.lit (.all)))))))))))))))))))))))))))))) (.lit (.lit (.lit (.fork (.lit (.lit (.lit (.lit (.lit (.lit (.lit (.fork (.lit (.lit (.lit (.lit (.lit (.lit (.lit (.fork (.lit (.lit (.lit (.lit (.lit (.lit (.lit (.fork (.lit (.all)) (.lit (.all)))))))))) (.lit (.lit (.lit (.lit (.lit (.lit (.lit (.lit (.lit (.all)))))))))))))))))) (.lit (.lit (.lit (.lit (.lit (.lit (.lit (.lit (.lit (.lit (.lit (.lit (.lit (.lit (.lit (.lit (.lit (.all)))))))))))))))))))))))))) (.lit (.lit (.lit (.lit (.lit (.lit (.lit (.lit (.lit (.lit (.lit (.lit (.lit (.lit (.lit (.lit (.lit (.lit (.lit (.lit (.lit (.lit (.lit (.lit (.lit (.all))))))))))))))))))))))))))))))
noncomputable def mls2_t (l : List PkT) (a n : Int) (o : List PkT) (i : Int) : Tree Stop :=
   .node (decide (i < (l.length : Int)))
 (.node (decide (i < 70))
  (.req (decide (0 ≤ i) && decide (i < (l.length : Int))) (.fail 82))
  (.req (few2 o.length) (.req (few2 o.length) (.req (few2 o.length) (.req (few2 o.length) (.req (few2 o.length) (.req (small (pg o a).snd.fst) (.req (few2 o.length) (.req (small (pg o a).snd.fst) (.node ((delV o a).fst.fst == (delV o a).fst.fst && ((delV o a).fst.snd.fst == (delV o a).fst.snd.fst && ((delV o a).fst.snd.snd == (delV o a).fst.snd.snd && true)))
           (.req (few2 (delV o a).snd.fst.length) (.req (decide ((delV o a).snd.fst = (delV o a).snd.fst)) (.node ((delV o a).snd.snd == (delV o a).snd.snd)
              (.req (few2 (dblV o a).fst.length) (.req (decide ((dblV o a).fst = (dblV o a).fst)) (.node ((dblV o a).snd == (dblV o a).snd)
                 (.req (few2 (spoV o a n).fst.length) (.req (decide ((spoV o a n).fst = (spoV o a n).fst)) (.node ((spoV o a n).snd == (spoV o a n).snd)
                    (.leaf (Stop.done (SV.bool true)))
                    (.leaf (Stop.done (SV.bool false))))))
                 (.leaf (Stop.done (SV.bool false))))))
              (.leaf (Stop.done (SV.bool false))))))
           (.leaf (Stop.done (SV.bool false)))))))))))))
 (.req (few2 o.length) (.req (few2 o.length) (.req (few2 o.length) (.req (few2 o.length) (.req (few2 o.length) (.req (small (pg o a).snd.fst) (.req (few2 o.length) (.req (small (pg o a).snd.fst) (.node ((delV o a).fst.fst == (delV o a).fst.fst && ((delV o a).fst.snd.fst == (delV o a).fst.snd.fst && ((delV o a).fst.snd.snd == (delV o a).fst.snd.snd && true)))
          (.req (few2 (delV o a).snd.fst.length) (.req (decide ((delV o a).snd.fst = (delV o a).snd.fst)) (.node ((delV o a).snd.snd == (delV o a).snd.snd)
             (.req (few2 (dblV o a).fst.length) (.req (decide ((dblV o a).fst = (dblV o a).fst)) (.node ((dblV o a).snd == (dblV o a).snd)
                (.req (few2 (spoV o a n).fst.length) (.req (decide ((spoV o a n).fst = (spoV o a n).fst)) (.node ((spoV o a n).snd == (spoV o a n).snd)
                   (.leaf (Stop.done (SV.bool true)))
                   (.leaf (Stop.done (SV.bool false))))))
                (.leaf (Stop.done (SV.bool false))))))
             (.leaf (Stop.done (SV.bool false))))))
          (.leaf (Stop.done (SV.bool false))))))))))))
theorem mls2 (l : List PkT) (a n : Int) (o : List PkT) (i : Int) : segR (Env.of Try.prog (sumOf [fShort, fDlv, fDlvR, fDbl, fDblR, fSpo, fSpoR, fSmp, fAwake])) 1000 (fnOf Try.prog 5) .unit (keepS 122 [0,1,2,7,8]) (loopOf Try.prog 5 0) mls2_p (slotsS 122 [(0, .list Pk l), (1, I64 a), (2, I64 n), (7, .list Pk o), (8, I64 i)]) [none] = mls2_t l a n o i := by kernel_rfl
end Go.Proofs.Ytibpodgdondakaa
set_option linter.unusedSimpArgs false
set_option linter.unusedVariables false
set_option maxRecDepth 100000
namespace Go.Proofs.Ytibpodgdondakaa
open Go.Sx

def cutP (p : PkT) : PkT := (p.1, (List.take 120 p.2.1, p.2.2))
theorem mlsFs : allOk Try.prog [fShort, fDlv, fDlvR, fDbl, fDblR, fSpo, fSpoR, fSmp, fAwake] := ⟨o_short, o_dlv, o_dlvR, o_dbl, o_dblR, o_spo, o_spoR, o_smp, o_awake, trivial⟩

theorem mls_end (l : List PkT) (a n : Int) (i : Int) (hi : i = 70 ∨ (l.length : Int) ≤ i) (h0 : 0 ≤ i ∧ i ≤ 70) (o : List PkT) (ho : o = (l.take i.toNat).map cutP) :
    RunsR Try.prog (fnOf Try.prog 5) (.bool true) (loopOf Try.prog 5 0) (slotsS 122 [(0, .list Pk l), (1, I64 a), (2, I64 n), (7, .row 0), (8, I64 i)]) [some (.rows Pk o)] := by
  refine runsR_weak false [0] (slots' := slotsS 122 [(0, .list Pk l), (1, I64 a), (2, I64 n), (7, .list Pk o), (8, I64 i)]) (boxes' := [none])
    (slotsS_wk ⟨rfl, .same _, rfl, .same _, rfl, .same _, rfl, .frz (List.mem_singleton.2 rfl) rfl, rfl, .same _, trivial⟩) rfl ?_
  refine runsR_seg (hK mlsFs) (n := 1000) (hint := .unit) (keep := keepS 122 [0, 1, 2, 7, 8]) (p := mls2_p) rfl ?_
  rw [mls2]
  unfold mls2_t
  have hl : o.length ≤ 70 := by rw [ho, List.length_map, List.length_take]; omega
  have hf : ∀ k : List PkT, k.length ≤ 71 → few2 k.length = true := fun k hk => few2_iff.2 (by omega)
  have f0 := hf o (by omega)
  have f1 := hf (delV o a).2.1 (by
    unfold delV; split
    · exact Nat.le_trans (List.length_eraseIdx_le ..) (by omega)
    · simp)
  have f2 := hf (dblV o a).1 (by
    unfold dblV; split
    · split
      · simp
      · simp; omega
    · simp)
  have f3 := hf (spoV o a n).1 (by
    unfold spoV; split
    · split
      · simp
      · simp; omega
    · simp)
  have hs : small (pg o a).2.1 = true := by
    unfold pg
    rw [List.getD_eq_getElem?_getD]
    cases hx : o[a.toNat]? with
    | none => rfl
    | some p =>
      have := List.mem_of_getElem? hx
      rw [ho] at this
      obtain ⟨q, _, rfl⟩ := List.mem_map.1 this
      exact small_iff.2 (by show ((List.take 120 q.2.1).length : Int) ≤ 100000; rw [List.length_take]; omega)
  simp only [Tree.holds, f0, f1, f2, f3, hs, beq_self_eq_true, Bool.and_self, decide_true, Bool.true_eq_false, false_implies, true_implies, true_and, and_true, decide_eq_true_eq, decide_eq_false_iff_not, Bool.and_eq_true]
  exact ⟨fun h1 => ⟨fun h2 => by omega, fun _ => trivial⟩, fun _ => trivial⟩

theorem mls_loop (l : List PkT) (a n : Int) : ∀ s : List PkT × Int, (0 ≤ s.2 ∧ s.2 < 70 ∧ s.2 < l.length ∧ s.1 = (l.take s.2.toNat).map cutP) →
    RunsR Try.prog (fnOf Try.prog 5) (.bool true) (loopOf Try.prog 5 0) (slotsS 122 [(0, .list Pk l), (1, I64 a), (2, I64 n), (7, .row 0), (8, I64 s.2)]) [some (.rows Pk s.1)] := by
  refine runsR_of (hK mlsFs) (n := 1000) (hint := .unit) rfl (fun s : List PkT × Int => 0 ≤ s.2 ∧ s.2 < 70 ∧ s.2 < l.length ∧ s.1 = (l.take s.2.toNat).map cutP) (fun s => (70 - s.2).toNat) (keepS 122 [0, 1, 2, 7, 8]) (fun _ => loopOf Try.prog 5 0)
    (fun s => slotsS 122 [(0, .list Pk l), (1, I64 a), (2, I64 n), (7, .row 0), (8, I64 s.2)]) (fun s => [some (.rows Pk s.1)]) (fun _ => mls1_p) fun s hs => ?_
  obtain ⟨o, i⟩ := s
  obtain ⟨h0, h1, h2, h3⟩ := hs
  dsimp only at h0 h1 h2 h3 ⊢
  rw [mls1]
  unfold mls1_t
  have hl : o.length ≤ 70 := by rw [h3, List.length_map, List.length_take]; omega
  obtain ⟨g1, g2, g3⟩ := pg_drop h0 h2
  have h4 : o ++ [((pg l i).1, (List.take 120 (pg l i).2.1, (pg l i).2.2))] = (l.take (i + 1).toNat).map cutP := by
    rw [g3, List.map_append, ← h3]; rfl
  simp only [Tree.holds, decide_eq_true_eq, decide_eq_false_iff_not, Bool.and_eq_true]
  refine ⟨fun _ => ⟨fun _ => ⟨⟨h0, h2⟩, by simp; omega, slotsS_len _ _, ?_⟩, fun c => by omega⟩, fun c => by omega⟩
  rw [wrap64 (by omega) (by omega)]
  by_cases hx : i + 1 < 70 ∧ i + 1 < l.length
  · exact .inl ⟨(_, i + 1), ⟨by dsimp only; omega, hx.1, hx.2, h4⟩, by dsimp only; omega, by trivial, rfl, rfl⟩
  · exact .inr (mls_end l a n (i + 1) (by omega) (by omega) _ h4)

theorem s_law5 (l : List PkT) (a n : Int) : SCall Try.prog 5 [.list Pk l, I64 a, I64 n] (.bool true) := by
  refine scallR_loops rfl rfl (by kernel_rfl) (runsR_seg (hK mlsFs) (n := 1000) (hint := .unit) (keep := keepS 122 [0, 1, 2, 7, 8]) (p := mls0_p) (boxes := []) rfl ?_)
  have e := mls0 l a n
  unfold startS codeS at e
  erw [e]
  refine ⟨slotsS_len _ _, ?_⟩
  refine runsR_weak true [] (slots' := slotsS 122 [(0, .list Pk l), (1, I64 a), (2, I64 n), (7, .row 0), (8, I64 0)]) (boxes' := [some (.rows Pk [])])
    (slotsS_wk ⟨rfl, .same _, rfl, .same _, rfl, .same _, rfl, .nil rfl, rfl, .same _, trivial⟩) trivial ?_
  by_cases hx : (0 : Int) < l.length
  · exact mls_loop l a n ([], 0) ⟨Int.le_refl 0, by decide, hx, rfl⟩
  · exact mls_end l a n 0 (by omega) (by omega) [] rfl
end Go.Proofs.Ytibpodgdondakaa
namespace Go.Proofs.Ytibpodgdondakaa
open Go.ChangeShapes Go.WideShapes Go.ChangeAt Go.RowKit
open Go.Sx
set_option linter.unusedVariables false
set_option maxRecDepth 100000

theorem linkMails_own : ownKnob Try.prog.godebug = none := by kernel_rfl
theorem linkMails_laid : laidOutB Try.prog = true := by kernel_rfl

theorem linkMails_lifted (os : Os) (started : os.Started) (H : Type) (enc : TypeId × Value → H) :
    ReturnsInHanded {} Try.checked os 5 .any (Rows.linkMailsSpec.pre6 enc Try.prog Try.f5 Rows.linkMailsRow.domain false) (Rows.linkMailsSpec.post enc Try.prog Try.f5 false true false false) := by
  refine returnsInHanded_of_change (C := Try.checked) linkMails_own started (by kernel_rfl) Try.func5
    (ChangeSpec.witness6 (enc := enc) (C := Try.checked) false ⟨#[], #[.slice none 0 0, .int .i64 0, .int .i64 0], []⟩ 8 (by kernel_rfl) (by kernel_rfl) (by kernel_rfl) (by kernel_rfl)) ?_
  intro W base args ds gs before hval0 hW hcnd _
  have hval : ∀ (j : Nat) t v, Try.f5.params[j]? = some t → args[j]? = some v → Value.okWide Try.prog W .any base t v := hval0
  have hW' := hW
  obtain ⟨p, q, hA0, hV, rfl, hfz, hnd⟩ := hW
  have hA : DataW.TrodAll enc Try.prog W 0 (fun _ => true) true Try.f5.params.toList args.toList ds p := hA0
  rw [Try.params5] at hA hval
  obtain ⟨v0, vs0, d0, ds0, p0, q0, hargs, rfl, rfl, h0, r0⟩ := trodAll_cons hA
  obtain ⟨v1, vs1, d1, ds1, p1, q1, rfl, rfl, rfl, h1, r1⟩ := trodAll_cons r0
  obtain ⟨v2, vs2, d2, ds2, p2, q2, rfl, rfl, rfl, h2, r2⟩ := trodAll_cons r1
  obtain ⟨rfl, rfl, rfl⟩ := trodAll_nil r2
  obtain rfl : args = #[v0, v1, v2] := by cases args; simp_all
  obtain ⟨rfl, rfl⟩ := trodVars_none hV
  have lt0 : ∀ x ∈ p0, x.block < W.heap.size := by obtain ⟨m, hm⟩ := h0; exact DataW.trod_lt m _ _ _ hm
  obtain ⟨y0, w0, s0⟩ := argOf_list (d := 20) (u := .pair .bool (.pair .str .bool)) (by kernel_rfl) Try.underlying37 (hval 0 37 v0 rfl rfl) h0
  have lt1 : ∀ x ∈ p1, x.block < W.heap.size := by obtain ⟨m, hm⟩ := h1; exact DataW.trod_lt m _ _ _ hm
  obtain ⟨y1, w1, s1⟩ := argOf_int (d := 1) (by kernel_rfl) Try.underlying3 (hval 1 3 v1 rfl rfl) h1
  have lt2 : ∀ x ∈ p2, x.block < W.heap.size := by obtain ⟨m, hm⟩ := h2; exact DataW.trod_lt m _ _ _ hm
  obtain ⟨y2, w2, s2⟩ := argOf_int (d := 1) (by kernel_rfl) Try.underlying3 (hval 2 3 v2 rfl rfl) h2
  clear hA0 hval0
  refine (SCall.calls_some (s_law5 y0 y1 y2) rfl Try.func5 (by kernel_rfl) (by kernel_rfl) W [v0, v1, v2] (⟨_, _, rfl, s0, ⟨_, _, rfl, s1, ⟨_, _, rfl, s2, rfl⟩⟩⟩)).mono fun e W' he => ?_
  obtain ⟨u, rfl, bel, rfl⟩ := he
  exact ⟨_, rfl, _, _, _, [], _, [], hW', trodAll_mk1 (shut_bool Try.underlying4 _), (trodAll_cons_mk (Below.trod linkMails_laid (by kernel_rfl) (of_decide_eq_true (by kernel_rfl)) h0 bel lt0) (trodAll_cons_mk (Below.trod linkMails_laid (by kernel_rfl) (of_decide_eq_true (by kernel_rfl)) h1 bel lt1) (trodAll_cons_mk (Below.trod linkMails_laid (by kernel_rfl) (of_decide_eq_true (by kernel_rfl)) h2 bel lt2) trodAll_mk0))), rfl, bel.frame _, fun h => by cases h⟩

theorem linkMails_over : Rows.linkMailsRow.holds Try.pinned (OpenSpec.ofChange Rows.linkMailsSpec) :=
  OpenClaim.holds_of_wide 5 Try.f5 rfl rfl rfl rfl rfl rfl rfl ⟨rfl, rfl, rfl, rfl, rfl⟩ rfl rfl rfl rfl rfl (by kernel_rfl) Try.func5 (by kernel_rfl)
    (of_decide_eq_true (by kernel_rfl)) (by unfold Func.isWrapper; first | (rw [if_pos (by decide +kernel)]; kernel_rfl) | (rw [if_neg (by decide +kernel)]; exact ⟨rfl, rfl⟩))
    (fun os started H enc _ => linkMails_lifted os started H enc)

theorem linkMails_proved : Rows.LinkMailsSaid := linkMails_over
end Go.Proofs.Ytibpodgdondakaa
