/-
  GP: contracts of Again, and facts on hosts with more.
-/
import Derived.Test.YtibpodgdondakaaGK
set_option linter.unusedSimpArgs false
set_option linter.unusedVariables false
set_option maxRecDepth 100000
namespace Go.Proofs.Ytibpodgdondakaa
open Go.Sx

theorem s_aga (h : Ho) (k : Int) (hs : smallsB h.ls = true) : SCall Try.prog 34 [h.sv, I64 k] (agaS (agaV h k)) := by
  refine scallR_loops rfl rfl (by kernel_rfl) (runsR_seg (hK (l := [fVal, fClo]) ⟨o_val, o_clo, trivial⟩) (n := 1000) (hint := .str) (keep := keepS 26 []) (p := aga0_p) (boxes := []) rfl ?_)
  have e := aga0 h k
  unfold startS codeS at e
  erw [e]
  unfold aga0_t
  obtain ⟨hf, hlen⟩ := few_smalls hs
  rw [wrap64 (x := (h.ls.length : Int) + 1) (by omega) (by omega)]
  simp only [Tree.holds, decide_eq_true_eq, decide_eq_false_iff_not, Bool.not_eq_true', Bool.not_eq_false']
  have no : (validB h = false ∨ k < 1 ∨ k > (h.ls.length : Int) + 1) → agaV h k = (zeroH, 1) := fun c => by unfold agaV; rw [if_pos c]
  refine ⟨hs, fun c => ?_, fun c => ⟨fun d => ?_, fun d => ⟨fun e => ?_, fun e => ⟨hf, ?_⟩⟩⟩⟩
  · rw [no (.inl c)]; rfl
  · rw [no (.inr (.inl d))]; rfl
  · rw [no (.inr (.inr e))]; rfl
  · unfold agaV; rw [if_neg (by rw [c]; simp; omega)]; rfl
theorem s_agaR (h : Ho) (k : Int) (hs : smallsB h.ls = true) : SCall Try.prog 35 [h.sv, I64 k] (agaS (agaV h k)) := by
  refine scallR_loops rfl rfl (by kernel_rfl) (runsR_seg (hK (l := [fValR]) ⟨o_valR, trivial⟩) (n := 1000) (hint := .str) (keep := keepS 26 []) (p := agaR0_p) (boxes := []) rfl ?_)
  have e := agaR0 h k
  unfold startS codeS at e
  erw [e]
  unfold agaR0_t
  obtain ⟨hf, hlen⟩ := few_smalls hs
  rw [wrap64 (x := (h.ls.length : Int) + 1) (by omega) (by omega)]
  simp only [Tree.holds, decide_eq_true_eq, decide_eq_false_iff_not, Bool.not_eq_true', Bool.not_eq_false']
  have no : (validB h = false ∨ k < 1 ∨ k > (h.ls.length : Int) + 1) → agaV h k = (zeroH, 1) := fun c => by unfold agaV; rw [if_pos c]
  refine ⟨hs, fun c => ?_, fun c => ⟨fun d => ?_, fun d => ⟨fun e => ?_, fun e => ?_⟩⟩⟩
  · rw [no (.inl c)]; rfl
  · rw [no (.inr (.inl d))]; rfl
  · rw [no (.inr (.inr e))]; rfl
  · unfold agaV; rw [if_neg (by rw [c]; simp; omega)]; rfl

def hoS (h : Ho) : SV := .agg [.list .str h.ls, I64 h.ba, I64 h.ne, I64 h.wi, I64 h.re, I64 h.se]
def factHN (f : FuncId) (h : Ho → Int → Tree SV) : Fact := ⟨f, fun args => match args with
  | [.agg [.list .str l, .int .i64 a, .int .i64 b, .int .i64 c, .int .i64 d, .int .i64 e], .int .i64 k] => some (.req (smallsB l) (h ⟨l, a, b, c, d, e⟩ k))
  | _ => none⟩
theorem factHN_ok {P : Program} {f : FuncId} {h : Ho → Int → Tree SV} (q : ∀ (x : Ho) (k : Int), smallsB x.ls = true → (h x k).says (SCall P f [x.sv, I64 k])) : (factHN f h).ok P := fun args t ht => by
  simp only [factHN] at ht
  split at ht
  · injection ht with ht; subst ht; exact q ⟨_, _, _, _, _, _⟩ _
  · cases ht
def agaT (h : Ho) (k : Int) : Tree SV := .leaf (.tuple [.agg [.list .str (agaV h k).1.ls, I64 (agaV h k).1.ba, I64 (agaV h k).1.ne, I64 (agaV h k).1.wi, I64 (agaV h k).1.re, I64 (agaV h k).1.se], I64 (agaV h k).2])
def fAga : Fact := factHN 34 agaT
def fAgaR : Fact := factHN 35 agaT
theorem o_aga : fAga.ok Try.prog := factHN_ok s_aga
theorem o_agaR : fAgaR.ok Try.prog := factHN_ok s_agaR
def sndTr (h : Ho) : Tree SV := .leaf (.tuple [.agg [.list .str (sndV h).ls, I64 (sndV h).ba, I64 (sndV h).ne, I64 (sndV h).wi, I64 (sndV h).re, I64 (sndV h).se], .agg [.bool false, .str (sndT h), .bool false], .bool (sndB h)])
def fSnd : Fact := factHS 31 sndTr
def fSndR : Fact := factHS 32 sndTr
theorem o_snd : fSnd.ok Try.prog := factHS_ok s_snd
theorem o_sndR : fSndR.ok Try.prog := factHS_ok s_sndR
def factHP (f : FuncId) (h : Ho → Bool → List UInt8 → Tree SV) : Fact := ⟨f, fun args => match args with
  | [.agg [.list .str l, .int .i64 a, .int .i64 b, .int .i64 c, .int .i64 d, .int .i64 e], .agg [.bool k, .str t, .bool _]] => some (.req (smallsB l && small t) (h ⟨l, a, b, c, d, e⟩ k t))
  | _ => none⟩
theorem factHP_ok {P : Program} {f : FuncId} {h : Ho → Bool → List UInt8 → Tree SV} (q : ∀ (x : Ho) (k : Bool) (t : List UInt8) (sp : Bool), smallsB x.ls = true → small t = true → (h x k t).says (SCall P f [x.sv, .agg [.bool k, .str t, .bool sp]])) : (factHP f h).ok P := fun args t ht => by
  simp only [factHP] at ht
  split at ht
  · injection ht with ht; subst ht
    intro hh
    rw [Bool.and_eq_true] at hh
    exact q ⟨_, _, _, _, _, _⟩ _ _ _ hh.1 hh.2
  · cases ht
def ansTr (h : Ho) (b : Bool) (t : List UInt8) : Tree SV := .leaf (.agg [.list .str (ansV h b t).ls, I64 (ansV h b t).ba, I64 (ansV h b t).ne, I64 (ansV h b t).wi, I64 (ansV h b t).re, I64 (ansV h b t).se])
def fAnsH : Fact := factHP 28 ansTr
def fAnsHR : Fact := factHP 33 ansTr
def sameL (a b : List (List UInt8)) : Bool := decide (a = b)
/-- Hosts that are compared: only the same. -/
def fSame : Fact := ⟨27, fun args => match args with
  | [.agg [.list .str l, .int .i64 a, .int .i64 b, .int .i64 c, .int .i64 d, .int .i64 e], .agg [.list .str l', .int .i64 a', .int .i64 b', .int .i64 c', .int .i64 d', .int .i64 e']] =>
    some (.req (sameL l l' && (a == a' && (b == b' && (c == c' && (d == d' && (e == e' && few2 l.length)))))) (.leaf (.bool true)))
  | _ => none⟩
theorem o_same : fSame.ok Try.prog := fun args t ht => by
  simp only [fSame] at ht
  split at ht
  · injection ht with ht; subst ht
    intro hh
    simp only [sameL, Bool.and_eq_true, decide_eq_true_eq, beq_iff_eq] at hh
    obtain ⟨rfl, rfl, rfl, rfl, rfl, rfl, hf⟩ := hh
    exact s_same_refl ⟨_, _, _, _, _, _⟩ hf
  · cases ht
theorem fewL_smalls (l : List (List UInt8)) : smallsB (fewL l) = true := by
  simp only [smallsB, fewL, Bool.and_eq_true, List.all_eq_true, few2, decide_eq_true_eq, List.length_map, List.length_take]
  refine ⟨fun t ht => ?_, by omega⟩
  obtain ⟨u, _, rfl⟩ := List.mem_map.1 ht
  exact small_take u
theorem ans_ls (h : Ho) (b : Bool) (t : List UInt8) : (ansV h b t).ls = h.ls := by unfold ansV; split; rfl; split; split <;> rfl; split <;> rfl
theorem snd_ls (h : Ho) : (sndV h).ls = h.ls := by unfold sndV; split <;> rfl
theorem aga_ls (h : Ho) (k : Int) : (agaV h k).1.ls = h.ls ∨ (agaV h k).1.ls = [] := by unfold agaV; split; exact .inr rfl; exact .inl rfl
theorem sta_ls (l : List (List UInt8)) (w : Int) : (staV l w).1.ls = l ∨ (staV l w).1.ls = [] := by unfold staV; split; exact .inr rfl; split; exact .inr rfl; exact .inl rfl
end Go.Proofs.Ytibpodgdondakaa
