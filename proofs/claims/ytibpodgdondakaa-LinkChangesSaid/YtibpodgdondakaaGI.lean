/-
  GI: hosts: few lines, and the start.
-/
import Derived.Test.YtibpodgdondakaaGH
set_option linter.unusedSimpArgs false
set_option linter.unusedVariables false
set_option maxRecDepth 100000
namespace Go.Proofs.Ytibpodgdondakaa
open Go.Sx

theorem gt_drop {l : List (List UInt8)} {i : Int} (h0 : 0 ≤ i) (h : i < l.length) : l.drop i.toNat = gt l i :: l.drop (i + 1).toNat ∧ gt l i ∈ l ∧ l.take (i + 1).toNat = l.take i.toNat ++ [gt l i] := by
  have hl : i.toNat < l.length := by omega
  have e : gt l i = l[i.toNat] := by
    unfold gt
    rw [List.getD_eq_getElem?_getD, List.getElem?_eq_getElem hl]; rfl
  refine ⟨?_, ?_, ?_⟩
  · rw [List.drop_eq_getElem_cons hl, e, show (i + 1).toNat = i.toNat + 1 by omega]
  · rw [e]; exact List.getElem_mem hl
  · rw [e, show (i + 1).toNat = i.toNat + 1 by omega, List.take_succ_eq_append_getElem hl]

/-! ### Few lines -/

def fewL (l : List (List UInt8)) : List (List UInt8) := (l.take 20).map (List.take 120)
def Ho.few (h : Ho) : Ho := { h with ls := fewL h.ls }

structure SW where
  l : List (List UInt8)
  i : Int
theorem few_loop (h : Ho) : ∀ a : SW, (0 ≤ a.i ∧ a.i ≤ 20 ∧ a.i ≤ h.ls.length ∧ a.l = (h.ls.take a.i.toNat).map (List.take 120)) →
    RunsR Try.prog (fnOf Try.prog 26) h.few.sv (loopOf Try.prog 26 0) (slotsS 28 [(1, .ptr 0 0), (2, .ptr 1 0), (3, .row 2), (4, I64 a.i)]) [some (.cells h.cells), some (.cells zcells), some (.rows .str a.l)] := by
  refine runsR_of (hK (l := [fShort]) ⟨o_short, trivial⟩) (n := 1000) (hint := .str) rfl (fun a : SW => 0 ≤ a.i ∧ a.i ≤ 20 ∧ a.i ≤ h.ls.length ∧ a.l = (h.ls.take a.i.toNat).map (List.take 120)) (fun a => (20 - a.i).toNat) (keepS 28 [1, 2, 3, 4]) (fun _ => loopOf Try.prog 26 0) (fun a => slotsS 28 [(1, .ptr 0 0), (2, .ptr 1 0), (3, .row 2), (4, I64 a.i)]) (fun a => [some (.cells h.cells), some (.cells zcells), some (.rows .str a.l)]) (fun _ => few1_p) fun a ha => ?_
  obtain ⟨l, i⟩ := a
  obtain ⟨h0, h20, hl, he⟩ := ha
  dsimp only at h0 h20 hl he ⊢
  rw [few1]
  unfold few1_t
  have hlen : l.length ≤ 20 := by rw [he, List.length_map, List.length_take]; omega
  have fin : (i = 20 ∨ (h.ls.length : Int) ≤ i) → SV.agg [SV.list Ty.str l, I64 h.ba, I64 h.ne, I64 h.wi, I64 h.re, I64 h.se] = h.few.sv := by
    intro hc
    have : l = fewL h.ls := by
      rw [he]; unfold fewL
      rcases hc with hc | hc
      · rw [hc]; rfl
      · rw [List.take_of_length_le (by omega), List.take_of_length_le (by omega)]
    rw [this]; rfl
  simp only [Tree.holds, decide_eq_true_eq, decide_eq_false_iff_not, Bool.and_eq_true]
  refine ⟨fun h1 => ⟨fun h2 => ⟨⟨h0, h1⟩, ?_, slotsS_len _ _, .inl ?_⟩, fun h2 => fin (.inl (by omega))⟩, fun h1 => fin (.inr (by omega))⟩
  · simp; omega
  · rw [wrap64 (by omega) (by omega)]
    obtain ⟨g1, g2, g3⟩ := gt_drop h0 h1
    refine ⟨⟨l ++ [List.take 120 (gt h.ls i)], i + 1⟩, ⟨by dsimp only; omega, by dsimp only; omega, by dsimp only; omega, ?_⟩, by dsimp only; omega, by trivial, rfl, rfl⟩
    dsimp only
    rw [g3, List.map_append, ← he]; rfl

theorem s_few (h : Ho) : SCall Try.prog 26 [h.sv] h.few.sv := by
  refine scallR_loops rfl rfl (by kernel_rfl) (runsR_seg (hK (l := [fShort]) ⟨o_short, trivial⟩) (n := 1000) (hint := .str) (keep := keepS 28 [1, 2, 3, 4]) (p := few0_p) (boxes := []) rfl ?_)
  have e := few0 h
  unfold startS codeS at e
  erw [e]
  refine ⟨slotsS_len _ _, ?_⟩
  refine runsR_seg (hK (l := [fShort]) ⟨o_short, trivial⟩) (n := 1000) (hint := .str) (keep := keepS 28 [1, 2, 3, 4]) (p := few1n_p) rfl ?_
  have e2 := few1n h 0
  unfold zcells Ho.cells at e2
  rw [e2]
  unfold few1n_t
  simp only [Tree.holds, decide_eq_true_eq, decide_eq_false_iff_not, Bool.and_eq_true]
  refine ⟨fun h1 => ⟨fun _ => ⟨⟨Int.le_refl 0, h1⟩, by simp, slotsS_len _ _, ?_⟩, fun h2 => absurd (by decide) h2⟩, fun h1 => ?_⟩
  · obtain ⟨g1, g2, g3⟩ := gt_drop (Int.le_refl 0) h1
    refine few_loop h ⟨[List.take 120 (gt h.ls 0)], 1⟩ ⟨by dsimp only; omega, by dsimp only; omega, by dsimp only; omega, ?_⟩
    dsimp only
    have g3 : h.ls.take 1 = [gt h.ls 0] := g3
    show _ = (h.ls.take 1).map (List.take 120)
    rw [g3]; rfl
  · have : h.ls = [] := List.eq_nil_of_length_eq_zero (by omega)
    unfold Ho.sv Ho.cells Ho.few fewL
    rw [this]; rfl
def factHo (f : FuncId) (h : Ho → Tree SV) : Fact := ⟨f, fun args => match args with
  | [.agg [.list .str l, .int .i64 a, .int .i64 b, .int .i64 c, .int .i64 d, .int .i64 e]] => some (h ⟨l, a, b, c, d, e⟩)
  | _ => none⟩
theorem factHo_ok {P : Program} {f : FuncId} {h : Ho → Tree SV} (k : ∀ x : Ho, (h x).says (SCall P f [x.sv])) : (factHo f h).ok P := fun args t ht => by
  simp only [factHo] at ht
  split at ht
  · injection ht with ht; subst ht; exact k ⟨_, _, _, _, _, _⟩
  · cases ht
def fFew : Fact := factHo 26 fun h => .leaf (.agg [.list .str (fewL h.ls), I64 h.ba, I64 h.ne, I64 h.wi, I64 h.re, I64 h.se])
theorem o_few : fFew.ok Try.prog := factHo_ok s_few

/-! ### The start -/

def smallsB (l : List (List UInt8)) : Bool := l.all small && few2 l.length
def sendsB (l : List (List UInt8)) : Bool := l.all sendB
def staV (l : List (List UInt8)) (w : Int) : Ho × Int :=
  if sendsB l = false ∨ w < 1 ∨ w > 8 then (zeroH, 1) else if (l.length : Int) > 65536 then (zeroH, 2) else (⟨l, 1, 1, w, 0, 0⟩, 0)
def staS (r : Ho × Int) : SV := .tuple [r.1.sv, I64 r.2]

theorem smalls_get {l : List (List UInt8)} (h : smallsB l = true) {i : Int} (h0 : 0 ≤ i) (hi : i < l.length) : small (gt l i) = true := by
  simp only [smallsB, Bool.and_eq_true, List.all_eq_true] at h
  exact h.1 _ (gt_drop h0 hi).2.1

theorem sta_loop (l : List (List UInt8)) (hs : smallsB l = true) (w : Int) (ok : Bool) (hok : ok = sendsB l) : ∀ i : Int, (0 ≤ i ∧ i ≤ l.length ∧ ok = sendsB (l.drop i.toNat)) →
    RunsR Try.prog (fnOf Try.prog 29) (staS (staV l w)) (loopOf Try.prog 29 0) (slotsS 36 [(0, .list .str l), (1, I64 w), (4, .ptr 0 0), (8, .list .str l), (9, I64 l.length), (10, I64 i)]) [some (.cells zcells)] := by
  have hf : few2 l.length = true := by simp only [smallsB, Bool.and_eq_true] at hs; exact hs.2
  have hlen : (l.length : Int) ≤ 100000 := by simpa [few2] using hf
  refine runsR_of (hK (l := [fSendable, fCloS]) ⟨o_sendable, o_cloS, trivial⟩) (n := 1000) (hint := .str) rfl (fun i : Int => 0 ≤ i ∧ i ≤ l.length ∧ ok = sendsB (l.drop i.toNat)) (fun i => ((l.length : Int) - i).toNat) (keepS 36 [0, 1, 4, 8, 9, 10]) (fun _ => loopOf Try.prog 29 0) (fun i => slotsS 36 [(0, .list .str l), (1, I64 w), (4, .ptr 0 0), (8, .list .str l), (9, I64 l.length), (10, I64 i)]) (fun _ => [some (.cells zcells)]) (fun _ => sta1_p) fun i hi => ?_
  obtain ⟨h0, hl, hv⟩ := hi
  rw [sta1]
  unfold sta1_t
  have bad : sendsB l = false ∨ w < 1 ∨ w > 8 → SV.tuple [SV.agg [SV.list .str [], I64 0, I64 0, I64 0, I64 0, I64 0], I64 1] = staS (staV l w) := fun h => by unfold staV; rw [if_pos h]; rfl
  simp only [Tree.holds, decide_eq_true_eq, decide_eq_false_iff_not, Bool.and_eq_true, Bool.not_eq_true', Bool.not_eq_false', Bool.and_eq_false_iff]
  refine ⟨fun h => ?_, fun h => ?_⟩
  · obtain ⟨g1, g2, g3⟩ := gt_drop h0 h
    rw [g1] at hv
    have hv : ok = (sendB (gt l i) && sendsB (l.drop (i + 1).toNat)) := hv
    refine ⟨⟨h0, h⟩, smalls_get hs h0 h, fun c => bad (.inl ?_), fun c => ⟨slotsS_len _ _, .inl ?_⟩⟩
    · rw [← hok, hv]
      have : sendB (gt l i) = false := by simp only [sendB, Bool.and_eq_false_iff, decide_eq_false_iff_not]; exact c
      rw [this]; rfl
    · rw [wrap64 (by omega) (by omega)]
      refine ⟨i + 1, ⟨by omega, by omega, ?_⟩, by omega, by trivial, rfl, by trivial⟩
      have : sendB (gt l i) = true := by simp only [sendB, Bool.and_eq_true, decide_eq_true_eq]; exact c
      rw [hv, this, Bool.true_and]
  · have hd : l.drop i.toNat = [] := List.drop_eq_nil_of_le (by omega)
    rw [hd] at hv
    have hS : sendsB l = true := by rw [← hok, hv]; rfl
    refine ⟨fun c => bad (.inr (.inl c)), fun c => ⟨fun d => bad (.inr (.inr d)), fun d => ⟨fun e => ?_, fun e => ⟨hf, ?_⟩⟩⟩⟩
    · unfold staV; rw [if_neg (by rw [hS]; simp; omega), if_pos e]; rfl
    · unfold staV; rw [if_neg (by rw [hS]; simp; omega), if_neg e]; rfl
theorem s_sta (l : List (List UInt8)) (w : Int) (hs : smallsB l = true) : SCall Try.prog 29 [.list .str l, I64 w] (staS (staV l w)) := by
  refine scallR_loops rfl rfl (by kernel_rfl) (runsR_seg (hK (l := [fSendable, fCloS]) ⟨o_sendable, o_cloS, trivial⟩) (n := 1000) (hint := .str) (keep := keepS 36 [0, 1, 4, 8, 9, 10]) (p := sta0_p) (boxes := []) rfl ?_)
  have e := sta0 l w
  unfold startS codeS at e
  erw [e]
  exact ⟨slotsS_len _ _, sta_loop l hs w _ rfl 0 ⟨Int.le_refl 0, by omega, rfl⟩⟩

theorem staR_loop (l : List (List UInt8)) (hs : smallsB l = true) (w : Int) (ok : Bool) (hok : ok = sendsB l) : ∀ i : Int, (0 ≤ i ∧ i ≤ l.length ∧ ok = sendsB (l.drop i.toNat)) →
    RunsR Try.prog (fnOf Try.prog 30) (staS (staV l w)) (loopOf Try.prog 30 0) (slotsS 44 [(0, .list .str l), (1, I64 w), (4, .ptr 0 0), (6, I64 i)]) [some (.cells zcells)] := by
  have hf : few2 l.length = true := by simp only [smallsB, Bool.and_eq_true] at hs; exact hs.2
  have hlen : (l.length : Int) ≤ 100000 := by simpa [few2] using hf
  refine runsR_of (hK (l := [fPlainR]) ⟨o_plainR, trivial⟩) (n := 1000) (hint := .str) rfl (fun i : Int => 0 ≤ i ∧ i ≤ l.length ∧ ok = sendsB (l.drop i.toNat)) (fun i => ((l.length : Int) - i).toNat) (keepS 44 [0, 1, 4, 6]) (fun _ => loopOf Try.prog 30 0) (fun i => slotsS 44 [(0, .list .str l), (1, I64 w), (4, .ptr 0 0), (6, I64 i)]) (fun _ => [some (.cells zcells)]) (fun _ => staR1_p) fun i hi => ?_
  obtain ⟨h0, hl, hv⟩ := hi
  rw [staR1]
  unfold staR1_t
  have bad : sendsB l = false ∨ w < 1 ∨ w > 8 → SV.tuple [SV.agg [SV.list .str [], I64 0, I64 0, I64 0, I64 0, I64 0], I64 1] = staS (staV l w) := fun h => by unfold staV; rw [if_pos h]; rfl
  simp only [Tree.holds, decide_eq_true_eq, decide_eq_false_iff_not, Bool.and_eq_true, Bool.not_eq_true', Bool.not_eq_false']
  refine ⟨fun h => ?_, fun h => ?_⟩
  · obtain ⟨g1, g2, g3⟩ := gt_drop h0 h
    rw [g1] at hv
    have hv : ok = (sendB (gt l i) && sendsB (l.drop (i + 1).toNat)) := hv
    refine ⟨⟨h0, h⟩, smalls_get hs h0 h, fun c => bad (.inl ?_), fun c => ⟨⟨h0, h⟩, fun d => bad (.inl ?_), fun d => ⟨slotsS_len _ _, .inl ?_⟩⟩⟩
    · rw [← hok, hv]
      have : sendB (gt l i) = false := by simp only [sendB, c, Bool.and_false]
      rw [this]; rfl
    · rw [← hok, hv]
      have : sendB (gt l i) = false := by
        have : decide (((gt l i).length : Int) ≤ 96) = false := by rw [decide_eq_false_iff_not]; omega
        simp only [sendB, this, Bool.false_and]
      rw [this]; rfl
    · rw [wrap64 (by omega) (by omega)]
      refine ⟨i + 1, ⟨by omega, by omega, ?_⟩, by omega, by trivial, rfl, by trivial⟩
      have : sendB (gt l i) = true := by simp only [sendB, Bool.and_eq_true, decide_eq_true_eq]; exact ⟨by omega, c⟩
      rw [hv, this, Bool.true_and]
  · have hd : l.drop i.toNat = [] := List.drop_eq_nil_of_le (by omega)
    rw [hd] at hv
    have hS : sendsB l = true := by rw [← hok, hv]; rfl
    refine ⟨fun c => bad (.inr (.inl c)), fun c => ⟨fun d => bad (.inr (.inr d)), fun d => ⟨fun e => ?_, fun e => ⟨fun k => ?_, fun k => ⟨?_, ?_⟩⟩⟩⟩⟩
    · unfold staV; rw [if_neg (by rw [hS]; simp; omega), if_pos e]; rfl
    · have : l = [] := by simpa using k
      unfold staV; rw [if_neg (by rw [hS]; simp; omega), if_neg e]
      subst this; rfl
    · omega
    · unfold staV; rw [if_neg (by rw [hS]; simp; omega), if_neg e]; rfl
theorem s_staR (l : List (List UInt8)) (w : Int) (hs : smallsB l = true) : SCall Try.prog 30 [.list .str l, I64 w] (staS (staV l w)) := by
  refine scallR_loops rfl rfl (by kernel_rfl) (runsR_seg (hK (l := [fPlainR]) ⟨o_plainR, trivial⟩) (n := 1000) (hint := .str) (keep := keepS 44 [0, 1, 4, 6]) (p := staR0_p) (boxes := []) rfl ?_)
  have e := staR0 l w
  unfold startS codeS at e
  erw [e]
  exact ⟨slotsS_len _ _, staR_loop l hs w _ rfl 0 ⟨Int.le_refl 0, by omega, rfl⟩⟩

def factSta (f : FuncId) : Fact := ⟨f, fun args => match args with
  | [.list .str l, .int .i64 w] => some (.req (smallsB l) (.leaf (.tuple [.agg [.list .str (staV l w).1.ls, I64 (staV l w).1.ba, I64 (staV l w).1.ne, I64 (staV l w).1.wi, I64 (staV l w).1.re, I64 (staV l w).1.se], I64 (staV l w).2])))
  | _ => none⟩
def fSta : Fact := factSta 29
def fStaR : Fact := factSta 30
theorem o_sta : fSta.ok Try.prog := fun args t ht => by
  simp only [fSta, factSta] at ht
  split at ht
  · injection ht with ht; subst ht; exact s_sta _ _
  · cases ht
theorem o_staR : fStaR.ok Try.prog := fun args t ht => by
  simp only [fStaR, factSta] at ht
  split at ht
  · injection ht with ht; subst ht; exact s_staR _ _
  · cases ht
end Go.Proofs.Ytibpodgdondakaa
