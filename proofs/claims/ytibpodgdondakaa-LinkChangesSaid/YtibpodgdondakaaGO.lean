/-
  GO: what is done with hosts, in plain words.
-/
import Derived.Test.YtibpodgdondakaaGM
set_option linter.unusedSimpArgs false
set_option linter.unusedVariables false
set_option maxRecDepth 100000
namespace Go.Proofs.Ytibpodgdondakaa
open Go.Sx

def moreV (n : Int) : Int := if n < MC then n + 1 else n
def agaV (h : Ho) (k : Int) : Ho × Int := if validB h = false ∨ k < 1 ∨ k > (h.ls.length : Int) + 1 then (zeroH, 1) else ({ h with ba := k, ne := k }, 0)
def agaS (r : Ho × Int) : SV := .tuple [r.1.sv, I64 r.2]
def sndB (h : Ho) : Bool := validB h && !(h.ne == h.ba + h.wi) && !decide (h.ne > h.ls.length)
def sndV (h : Ho) : Ho := if sndB h then { h with ne := h.ne + 1, se := moreV h.se } else h
def sndT (h : Ho) : List UInt8 := if sndB h then (frame h.ne (gt h.ls (h.ne - 1))).1 else []
def ansV (h : Ho) (b : Bool) (t : List UInt8) : Ho :=
  if validB h = false ∨ b = false ∨ aB t = false then h
  else if aW t = wOk then (if aN t ≤ h.ls.length then { h with ba := if h.ba < aN t + 1 then aN t + 1 else h.ba, ne := if h.ne < aN t + 1 then aN t + 1 else h.ne } else h)
  else if 1 ≤ aN t ∧ aN t < h.ne then { h with ba := aN t, ne := aN t, re := moreV h.re } else h

/-- Facts on a host and a number. -/
def fAns : Fact := factL 59 fun s => .leaf (.tuple [.str (aW s), I64 (aN s), .bool (aB s)])
def fRpl : Fact := ⟨63, fun args => match args with
  | [.str s, .str w] => some (.req (small s && (w == wOk || w == wRe)) (.leaf (.tuple [I64 (rplN w s), .bool (rplB w s)])))
  | _ => none⟩
def fMore : Fact := ⟨62, fun args => match args with
  | [.int .i64 n] => some (.req (decide (n ≤ 4398046511104) && decide (-4398046511104 ≤ n)) (.leaf (I64 (moreV n))))
  | _ => none⟩
def fClo : Fact := factH 58 fun h => .leaf (.agg [.list .str h.ls, I64 h.ba, I64 h.ne, I64 h.wi, I64 h.re, I64 h.se])

theorem few_smalls {l : List (List UInt8)} (h : smallsB l = true) : few2 l.length = true ∧ (l.length : Int) ≤ 100000 := by
  have hf : few2 l.length = true := by simp only [smallsB, Bool.and_eq_true] at h; exact h.2
  exact ⟨hf, by simpa [few2] using hf⟩
theorem valid_to {h : Ho} (hv : validB h = true) : hostP h ∧ sendsB h.ls = true := by
  unfold validB at hv
  rw [Bool.and_eq_true, decide_eq_true_eq] at hv
  exact hv
theorem sends_get {l : List (List UInt8)} (h : sendsB l = true) {i : Int} (h0 : 0 ≤ i) (hi : i < l.length) : plainB (gt l i) = true ∧ ((gt l i).length : Int) ≤ 96 := by
  simp only [sendsB, List.all_eq_true] at h
  have := h _ (gt_drop h0 hi).2.1
  simp only [sendB, Bool.and_eq_true, decide_eq_true_eq] at this
  exact ⟨this.2, this.1⟩
theorem frame_of {n : Int} {t : List UInt8} (h0 : 1 ≤ n) (h1 : n ≤ MC) (hp : plainB t = true) (hl : (t.length : Int) ≤ 96) : (frame n t).2 = 0 := by
  unfold frame
  rw [if_neg (by rw [hp]; simp; omega), if_neg (by omega)]
theorem ans_no {h : Ho} {b : Bool} {t : List UInt8} (hc : validB h = false ∨ b = false ∨ aB t = false) : ansV h b t = h := by unfold ansV; rw [if_pos hc]
theorem aW_or {t : List UInt8} (h : aB t = true) : (aW t = wOk ∨ aW t = wRe) ∧ 0 ≤ aN t ∧ aN t ≤ MC + 1 := by
  have hr : rplB (aW t) t = true := by unfold rplB; rw [h]; simp
  obtain ⟨_, a, b, c⟩ := rpl_to hr
  exact ⟨c, a, b⟩
theorem snd_no {h : Ho} (hc : sndB h = false) : sndV h = h ∧ sndT h = [] := by unfold sndV sndT; rw [hc]; exact ⟨rfl, rfl⟩
theorem snd_yes {h : Ho} (hc : sndB h = true) : sndV h = { h with ne := h.ne + 1, se := moreV h.se } ∧ sndT h = (frame h.ne (gt h.ls (h.ne - 1))).1 := by unfold sndV sndT; rw [hc]; exact ⟨rfl, rfl⟩
theorem parse_fmt {n : Int} (h0 : 0 ≤ n) (h1 : n ≤ MC + 1) : parseV (fmt n) = (n, 0) := by
  have := MC_eq
  exact ((parse_num (M := MC + 1) (by omega) (by omega) (fmt n) n).1 (numV_fmt h0 h1 (by omega))).1
theorem fmt_ne (n : Int) : 1 ≤ (fmt n).length := by
  unfold fmt backs toB rd
  simp; omega
end Go.Proofs.Ytibpodgdondakaa
