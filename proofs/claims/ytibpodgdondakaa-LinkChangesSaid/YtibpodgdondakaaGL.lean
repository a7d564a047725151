/-
  GL: valid hosts, and hosts that are the same.
-/
import Derived.Test.YtibpodgdondakaaGJ
set_option linter.unusedSimpArgs false
set_option linter.unusedVariables false
set_option maxRecDepth 100000
namespace Go.Proofs.Ytibpodgdondakaa
open Go.Sx

def hostP (h : Ho) : Prop := (h.ls.length : Int) ≤ 65536 ∧ 1 ≤ h.wi ∧ h.wi ≤ 8 ∧ 1 ≤ h.ba ∧ h.ba ≤ (h.ls.length : Int) + 1 ∧ h.ba ≤ h.ne ∧ h.ne ≤ h.ba + h.wi ∧ h.ne ≤ (h.ls.length : Int) + 1 ∧ 0 ≤ h.se ∧ h.se ≤ MC ∧ 0 ≤ h.re ∧ h.re ≤ MC
instance (h : Ho) : Decidable (hostP h) := by unfold hostP; infer_instance
def validB (h : Ho) : Bool := decide (hostP h) && sendsB h.ls

theorem val_loop (l : List (List UInt8)) (hs : smallsB l = true) (v : Bool) : ∀ i : Int, (0 ≤ i ∧ i ≤ l.length ∧ v = sendsB (l.drop i.toNat)) →
    RunsR Try.prog (fnOf Try.prog 60) (.bool v) (loopOf Try.prog 60 0) (slotsS 82 [(72, .list .str l), (73, I64 l.length), (74, I64 i)]) [] := by
  have hf : few2 l.length = true := by simp only [smallsB, Bool.and_eq_true] at hs; exact hs.2
  have hlen : (l.length : Int) ≤ 100000 := by simpa [few2] using hf
  refine runsR_of (hK (l := [fSendable]) ⟨o_sendable, trivial⟩) (n := 1000) (hint := .unit) rfl (fun i : Int => 0 ≤ i ∧ i ≤ l.length ∧ v = sendsB (l.drop i.toNat)) (fun i => ((l.length : Int) - i).toNat) (keepS 82 [72, 73, 74]) (fun _ => loopOf Try.prog 60 0) (fun i => slotsS 82 [(72, .list .str l), (73, I64 l.length), (74, I64 i)]) (fun _ => []) (fun _ => val1_p) fun i hi => ?_
  obtain ⟨h0, hl, hv⟩ := hi
  rw [val1]
  unfold val1_t
  simp only [Tree.holds, decide_eq_true_eq, decide_eq_false_iff_not, Bool.and_eq_true, Bool.not_eq_true', Bool.not_eq_false', Bool.and_eq_false_iff]
  refine ⟨fun h => ?_, fun h => ?_⟩
  · obtain ⟨g1, g2, g3⟩ := gt_drop h0 h
    rw [g1] at hv
    have hv : v = (sendB (gt l i) && sendsB (l.drop (i + 1).toNat)) := hv
    refine ⟨⟨h0, h⟩, smalls_get hs h0 h, fun c => ?_, fun c => ⟨slotsS_len _ _, .inl ?_⟩⟩
    · have : sendB (gt l i) = false := by simp only [sendB, Bool.and_eq_false_iff, decide_eq_false_iff_not]; exact c
      rw [hv, this]; rfl
    · rw [wrap64 (by omega) (by omega)]
      refine ⟨i + 1, ⟨by omega, by omega, ?_⟩, by omega, by trivial, rfl, by trivial⟩
      have : sendB (gt l i) = true := by simp only [sendB, Bool.and_eq_true, decide_eq_true_eq]; exact c
      rw [hv, this, Bool.true_and]
  · have hd : l.drop i.toNat = [] := List.drop_eq_nil_of_le (by omega)
    rw [hd] at hv
    rw [hv]; rfl

theorem s_val (h : Ho) (hs : smallsB h.ls = true) : SCall Try.prog 60 [h.sv] (.bool (validB h)) := by
  have hf : few2 h.ls.length = true := by simp only [smallsB, Bool.and_eq_true] at hs; exact hs.2
  have hlen : (h.ls.length : Int) ≤ 100000 := by simpa [few2] using hf
  refine scallR_loops rfl rfl (by kernel_rfl) (runsR_seg (hK (l := [fSendable]) ⟨o_sendable, trivial⟩) (n := 1000) (hint := .unit) (keep := keepS 82 [72, 73, 74]) (p := val0_p) (boxes := []) rfl ?_)
  have e := val0 h
  unfold startS codeS at e
  erw [e]
  unfold val0_t
  have bad : ¬ hostP h → SV.bool false = SV.bool (validB h) := fun hn => by unfold validB; rw [decide_eq_false hn]; rfl
  rw [wrap64 (x := (h.ls.length : Int) + 1) (by omega) (by omega)]
  simp only [Tree.holds, decide_eq_true_eq, decide_eq_false_iff_not]
  refine ⟨fun c => bad fun p => by unfold hostP at p; omega, fun c1 => ⟨fun c => bad fun p => by unfold hostP at p; omega, fun c2 => ⟨fun c => bad fun p => by unfold hostP at p; omega, fun c3 => ⟨fun c => bad fun p => by unfold hostP at p; omega, fun c4 =>
    ⟨fun c => bad fun p => by unfold hostP at p; omega, fun c5 => ⟨fun c => bad fun p => by unfold hostP at p; omega, fun c6 => ?_⟩⟩⟩⟩⟩⟩
  rw [wrap64 (x := h.ba + h.wi) (by omega) (by omega)]
  refine ⟨fun c => bad fun p => by unfold hostP at p; split at c <;> omega, fun c7 => ⟨fun c => bad fun p => by unfold hostP at p; omega, fun c8 => ⟨fun c => bad fun p => by unfold hostP at p; omega, fun c9 => ⟨fun c => bad fun p => by unfold hostP at p; omega, fun c10 =>
    ⟨fun c => bad fun p => by unfold hostP at p; omega, fun c11 => ⟨slotsS_len _ _, ?_⟩⟩⟩⟩⟩⟩
  have hp : hostP h := by
    unfold hostP
    split at c7 <;> omega
  refine val_loop h.ls hs _ 0 ⟨Int.le_refl 0, by omega, ?_⟩
  unfold validB; rw [decide_eq_true hp, Bool.true_and]; rfl

/-! ### The same -/

def sameB (g h : Ho) : Bool := decide (g.ls = h.ls) && (g.ba == h.ba && (g.ne == h.ne && (g.wi == h.wi && (g.re == h.re && g.se == h.se))))

theorem s_same_refl (h : Ho) (hf : few2 h.ls.length = true) : SCall Try.prog 27 [h.sv, h.sv] (.bool true) := by
  have hlen : (h.ls.length : Int) ≤ 100000 := by simpa [few2] using hf
  refine scallR_loops rfl rfl (by kernel_rfl) (runsR_seg (hK (l := []) trivial) (n := 1000) (hint := .unit) (keep := keepS 66 [2, 3, 5]) (p := same0_p) (boxes := []) rfl ?_)
  have e := same0 h h
  unfold startS codeS at e
  erw [e]
  unfold same0_t
  simp only [Tree.holds, bne_self_eq_false, Bool.false_eq_true, false_implies, true_implies, true_and]
  refine ⟨slotsS_len _ _, ?_⟩
  have loop : ∀ i : Int, (0 ≤ i ∧ i ≤ h.ls.length) → RunsR Try.prog (fnOf Try.prog 27) (.bool true) (loopOf Try.prog 27 0) (slotsS 66 [(2, .ptr 0 0), (3, .ptr 1 0), (5, I64 i)]) [some (.cells h.cells), some (.cells h.cells)] := by
    refine runsR_of (hK (l := []) trivial) (n := 1000) (hint := .unit) rfl (fun i : Int => 0 ≤ i ∧ i ≤ h.ls.length) (fun i => ((h.ls.length : Int) - i).toNat) (keepS 66 [2, 3, 5]) (fun _ => loopOf Try.prog 27 0) (fun i => slotsS 66 [(2, .ptr 0 0), (3, .ptr 1 0), (5, I64 i)]) (fun _ => [some (.cells h.cells), some (.cells h.cells)]) (fun _ => same1_p) fun i hi => ?_
    obtain ⟨h0, hl⟩ := hi
    rw [same1]
    unfold same1_t
    simp only [Tree.holds, decide_eq_true_eq, decide_eq_false_iff_not, Bool.and_eq_true, beq_self_eq_true, Bool.not_true, Bool.false_eq_true, false_implies, true_implies, true_and]
    refine ⟨fun h1 => ⟨⟨h0, h1⟩, ⟨h0, h1⟩, slotsS_len _ _, .inl ?_⟩, fun _ => trivial⟩
    rw [wrap64 (by omega) (by omega)]
    exact ⟨i + 1, ⟨by omega, by omega⟩, by omega, by trivial, rfl⟩
  exact loop 0 ⟨Int.le_refl 0, by omega⟩
def factHS (f : FuncId) (h : Ho → Tree SV) : Fact := ⟨f, fun args => match args with
  | [.agg [.list .str l, .int .i64 a, .int .i64 b, .int .i64 c, .int .i64 d, .int .i64 e]] => some (.req (smallsB l) (h ⟨l, a, b, c, d, e⟩))
  | _ => none⟩
theorem factHS_ok {P : Program} {f : FuncId} {h : Ho → Tree SV} (k : ∀ x : Ho, smallsB x.ls = true → (h x).says (SCall P f [x.sv])) : (factHS f h).ok P := fun args t ht => by
  simp only [factHS] at ht
  split at ht
  · injection ht with ht; subst ht; exact k ⟨_, _, _, _, _, _⟩
  · cases ht
def fVal : Fact := factHS 60 fun h => .leaf (.bool (validB h))
def fValR : Fact := factHS 61 fun h => .leaf (.bool (validB h))
theorem o_val : fVal.ok Try.prog := factHS_ok s_val
end Go.Proofs.Ytibpodgdondakaa
