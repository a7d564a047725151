/-
  GB: what is framed is opened again.
-/
import Derived.Test.YtibpodgdondakaaG9
set_option linter.unusedSimpArgs false
set_option linter.unusedVariables false
set_option maxRecDepth 100000
namespace Go.Proofs.Ytibpodgdondakaa
open Go.Sx

/-! ### The digits of a number -/

def dv : List Int → Int
  | [] => 0
  | d :: r => (d - 48) + 10 * dv r
theorem dv_rd : ∀ (k : Nat) (u : Int), 0 ≤ u → u < 10 ^ k → dv (rd k u) = u
  | 0, u, h0, hk => by simp at hk; have : u = 0 := by omega
                       subst this; rfl
  | k + 1, u, h0, hk => by
    unfold rd
    rw [Int.pow_succ] at hk
    split
    · rename_i h
      have := dv_rd k (u / 10) (by omega) (by omega)
      simp only [dv, this]; omega
    · simp only [dv]; omega
theorem rd_digits : ∀ (k : Nat) (u : Int), 0 ≤ u → ∀ d ∈ rd k u, 48 ≤ d ∧ d ≤ 57
  | 0, u, h0, d, hd => by cases hd
  | k + 1, u, h0, d, hd => by
    unfold rd at hd
    cases hd with
    | head => omega
    | tail _ hd =>
      split at hd
      · exact rd_digits k (u / 10) (by omega) d hd
      · cases hd
/-- The first digit (the last of the list) is none, but for 0. -/
theorem rd_last : ∀ (k : Nat) (u : Int), 0 < u → u < 10 ^ k → ∃ d, (rd k u).getLast? = some d ∧ d ≠ 48
  | 0, u, h0, hk => by simp at hk; omega
  | k + 1, u, h0, hk => by
    unfold rd
    rw [Int.pow_succ] at hk
    split
    · rename_i h
      obtain ⟨d, h1, h2⟩ := rd_last k (u / 10) (by omega) (by omega)
      refine ⟨d, ?_, h2⟩
      rw [List.getLast?_cons, h1]; rfl
    · exact ⟨48 + u % 10, rfl, by omega⟩

theorem toB_toNat {d : Int} (h : 48 ≤ d ∧ d ≤ 57) : ((UInt8.ofNat d.toNat).toNat : Int) = d := by
  rw [UInt8.toNat_ofNat']; omega
theorem digs_toB {l : List Int} (h : ∀ d ∈ l, 48 ≤ d ∧ d ≤ 57) : digs (toB l) = true := by
  simp only [digs, toB, List.all_eq_true]
  intro b hb
  obtain ⟨d, hd, rfl⟩ := List.mem_map.1 hb
  rw [isDig_iff, toB_toNat (h d hd)]
  exact h d hd
theorem val_toB : ∀ {l : List Int}, (∀ d ∈ l, 48 ≤ d ∧ d ≤ 57) → val (toB l.reverse) = dv l
  | [], _ => rfl
  | d :: l, h => by
    have ih := val_toB (l := l) fun x hx => h x (List.mem_cons_of_mem _ hx)
    have e : toB (d :: l).reverse = toB l.reverse ++ [UInt8.ofNat d.toNat] := by simp [toB]
    rw [e]
    unfold val valF at ih ⊢
    rw [List.foldl_append, ih]
    simp only [List.foldl_cons, List.foldl_nil]
    rw [toB_toNat (h d List.mem_cons_self), dv]
    omega

theorem size_pos {n : Int} (h0 : 0 ≤ n) (h1 : n ≤ 9223372036854775807) : size n = n := by
  unfold size
  rw [if_neg (by omega), u64_id h0 (by omega)]
theorem fmt_pos {n : Int} (h0 : 0 ≤ n) (h1 : n ≤ 9223372036854775807) : fmt n = toB (rd 20 n).reverse := by
  unfold fmt backs
  rw [size_pos h0 h1, if_neg (by omega), List.append_nil]
theorem p20 : (10 : Int) ^ 20 = 100000000000000000000 := by decide
theorem numV_fmt {M n : Int} (h0 : 0 ≤ n) (hM : n ≤ M) (hM2 : M ≤ 4398046511104) : numV M (fmt n) = some n := by
  have hd := rd_digits 20 n h0
  have hp := p20
  rw [numV_eq (by omega), fmt_pos h0 (by omega)]
  have hv : val (toB (rd 20 n).reverse) = n := by rw [val_toB hd, dv_rd 20 n h0 (by omega)]
  refine ⟨?_, ?_, digs_toB fun d h => hd d (List.mem_reverse.1 h), by omega, hv.symm⟩
  · unfold rd; simp [toB]
  · by_cases hz : n = 0
    · subst hz; rfl
    · obtain ⟨d, h1, h2⟩ := rd_last 20 n (by omega) (by omega)
      have hm : d ∈ rd 20 n := List.mem_of_getLast? h1
      have h3 : (toB (rd 20 n).reverse).head? = some (UInt8.ofNat d.toNat) := by
        simp only [toB, List.head?_map, List.head?_reverse, h1]; rfl
      have h4 : UInt8.ofNat d.toNat ≠ 48 := by
        intro e
        have := toB_toNat (hd d hm)
        rw [e] at this
        have e48 : ((48 : UInt8).toNat : Int) = 48 := rfl
        omega
      simp [lead0, h3, h4]

theorem fmt_bytes {n : Int} (h0 : 0 ≤ n) (h1 : n ≤ 9223372036854775807) : ∀ b ∈ fmt n, 48 ≤ (b.toNat : Int) ∧ (b.toNat : Int) ≤ 57 := by
  intro b hb
  rw [fmt_pos h0 h1] at hb
  obtain ⟨d, hd, rfl⟩ := List.mem_map.1 hb
  have := rd_digits 20 n h0 d (List.mem_reverse.1 hd)
  rw [toB_toNat this]; exact this

/-! ### Cutting at the first -/

theorem ix_first {c : UInt8} : ∀ {x r : List UInt8}, (∀ a ∈ x, a ≠ c) → ix (x ++ c :: r) c = x.length
  | [], r, _ => by rw [List.nil_append, ix_cons, if_pos rfl]; rfl
  | a :: x, r, h => by
    rw [List.cons_append, ix_cons, if_neg (h a List.mem_cons_self), ix_first fun b hb => h b (List.mem_cons_of_mem _ hb), if_neg (by omega)]
    simp
theorem cut_first {c : UInt8} {x r : List UInt8} (h : ∀ a ∈ x, a ≠ c) : cutC (x ++ c :: r) c = true ∧ cutA (x ++ c :: r) c = x ∧ cutB (x ++ c :: r) c = r := by
  have e := ix_first (r := r) h
  unfold cutC cutA cutB
  rw [e]
  refine ⟨by simp, ?_, ?_⟩
  · rw [if_pos (by omega)]; simp
  · rw [if_pos (by omega), show ((x.length : Int) + 1).toNat = x.length + 1 by omega, List.drop_append]
    simp

theorem xr_range (s : List UInt8) : 0 ≤ xr s ∧ xr s ≤ 255 := by
  unfold xr
  have := (xorL 0 s).toNat_lt
  omega
theorem okB_iff {b : UInt8} : okB b = true ↔ (32 ≤ (b.toNat : Int) ∧ (b.toNat : Int) ≤ 126 ∧ (b.toNat : Int) ≠ 42) := by
  simp only [okB, Bool.and_eq_true, Bool.not_eq_true', decide_eq_false_iff_not, beq_eq_false_iff_ne]
  omega

theorem frame_ok {n : Int} {t : List UInt8} (h : (frame n t).2 = 0) : 1 ≤ n ∧ n ≤ MC ∧ plainB t = true ∧ (t.length : Int) ≤ 96 ∧ (frame n t).1 = [78] ++ fmt n ++ [32] ++ t ++ [42] ++ fmt (xr ([78] ++ fmt n ++ [32] ++ t)) := by
  unfold frame at h ⊢
  by_cases h1 : n < 1 ∨ n > MC ∨ plainB t = false
  · rw [if_pos h1] at h; cases h
  · rw [if_neg h1] at h ⊢
    by_cases h2 : (t.length : Int) > 96
    · rw [if_pos h2] at h; cases h
    · rw [if_neg h2] at h ⊢
      refine ⟨by omega, by omega, ?_, by omega, rfl⟩
      by_cases hp : plainB t = true
      · exact hp
      · exact absurd (.inr (.inr (by simpa using hp))) h1

theorem open_frame {n : Int} {t : List UInt8} (h : (frame n t).2 = 0) : opn (frame n t).1 = (n, t, 0) := by
  obtain ⟨h1, h2, hp, hl, he⟩ := frame_ok h
  have hMC : MC = 1099511627776 := rfl
  rw [he]
  have fb := fmt_bytes (n := n) (by omega) (by omega)
  have hp' : ∀ b ∈ t, okB b = true := by simpa [plainB, List.all_eq_true] using hp
  have b42 : ((42 : UInt8).toNat : Int) = 42 := rfl
  have b32 : ((32 : UInt8).toNat : Int) = 32 := rfl
  -- no asterisk ahead of the checksum
  have no42 : ∀ a ∈ [78] ++ fmt n ++ [32] ++ t, a ≠ 42 := by
    intro a ha e
    subst e
    simp only [List.mem_append, List.mem_singleton] at ha
    rcases ha with ((ha | ha) | ha) | ha
    · cases ha
    · have := fb _ ha; omega
    · cases ha
    · have := okB_iff.1 (hp' _ ha); omega
  have no32 : ∀ a ∈ [78] ++ fmt n, a ≠ 32 := by
    intro a ha e
    subst e
    simp only [List.mem_append, List.mem_singleton] at ha
    rcases ha with ha | ha
    · cases ha
    · have := fb _ ha; omega
  generalize hF : [78] ++ fmt n ++ [32] ++ t = F at no42 ⊢
  have e1 : F ++ [42] ++ fmt (xr F) = F ++ 42 :: fmt (xr F) := by simp
  have e2 : F = ([78] ++ fmt n) ++ 32 :: t := by rw [← hF]; simp
  rw [e1]
  obtain ⟨c1, c2, c3⟩ := cut_first (r := fmt (xr F)) no42
  have hhd : hd (F ++ 42 :: fmt (xr F)) = F := by unfold hd; rw [c1, if_pos rfl, c2]
  obtain ⟨d1, d2, d3⟩ := cut_first (r := t) no32
  rw [← e2] at d1 d2 d3
  have xrr := xr_range F
  have nx : numV 255 (fmt (xr F)) = some (xr F) := numV_fmt xrr.1 xrr.2 (by omega)
  have hcN : cN (F ++ 42 :: fmt (xr F)) = xr F := by unfold cN numN; rw [c1, if_pos rfl, c3, nx]; rfl
  have hcO : cO (F ++ 42 :: fmt (xr F)) = true := by unfold cO numO; rw [c1, c3, nx]; rfl
  have hdg : dg (F ++ 42 :: fmt (xr F)) = fmt n := by unfold dg; rw [hhd, d2]; rfl
  have nn : numV MC (fmt n) = some n := numV_fmt (by omega) h2 (by omega)
  have hnN : numN MC (fmt n) = n := by unfold numN; rw [nn]; rfl
  have hnO : numO MC (fmt n) = true := by unfold numO; rw [nn]; rfl
  have hg : goodB (F ++ 42 :: fmt (xr F)) = true := by
    unfold goodB
    rw [hcO, hhd, d1, d2, d3, hdg, hnN, hnO, hp, decide_eq_true hl, decide_eq_true h1]
    rfl
  unfold opn
  rw [hg, if_pos rfl, hcN, hhd, if_pos rfl, hdg, hnN, d3]

theorem frame_small (n : Int) {t : List UInt8} (h : (t.length : Int) ≤ 1000) : small (frame n t).1 = true := by
  have h1 := fmt_len n
  have h2 := fmt_len (xr ([78] ++ fmt n ++ [32] ++ t))
  rw [small_iff]
  unfold frame
  split
  · decide
  · split
    · decide
    · simp only [List.length_append, List.length_cons, List.length_nil]; omega
theorem small_take (t : List UInt8) : small (List.take 120 t) = true := by
  rw [small_iff, List.length_take]; omega

/-! ### Answers -/

def repl (w : List UInt8) (n : Int) : List UInt8 := w ++ [32] ++ fmt n ++ [42] ++ fmt (xr (w ++ [32] ++ fmt n))
def fReply : Fact := ⟨53, fun args => match args with
  | [.str w, .int .i64 n] => some (.req (decide ((w.length : Int) ≤ 100)) (.leaf (.agg [.bool true, .str (repl w n), .bool false])))
  | _ => none⟩
def fReplyR : Fact := ⟨54, fun args => match args with
  | [.str w, .int .i64 n] => some (.req (decide ((w.length : Int) ≤ 100)) (.leaf (.str (repl w n))))
  | _ => none⟩

def wOk : List UInt8 := [111, 107]
def wRe : List UInt8 := [114, 101, 115, 101, 110, 100]
/-- What the device does with a packet: its number behind it, the accepted text, the reply, and whether it was accepted. -/
def rcv (w : Int) (b : Bool) (t : List UInt8) : Int × List UInt8 × Bool × List UInt8 × Bool :=
  if w < 1 ∨ w > MC + 1 ∨ b = true then (w, [], false, [], false)
  else if (opn t).2.2 ≠ 0 ∨ (opn t).1 > w then (w, [], true, repl wRe w, false)
  else if (opn t).1 < w then (w, [], true, repl wOk (IntKind.i64.wrap (w - 1)), false)
  else (IntKind.i64.wrap (w + 1), (opn t).2.1, true, repl wOk (opn t).1, true)
def rcvS (r : Int × List UInt8 × Bool × List UInt8 × Bool) : SV := .tuple [.agg [I64 r.1], .str r.2.1, .agg [.bool r.2.2.1, .str r.2.2.2.1, .bool false], .bool r.2.2.2.2]
def factDP (f : FuncId) (h : Int → Bool → List UInt8 → Bool → Tree SV) : Fact := ⟨f, fun args => match args with
  | [.agg [.int .i64 w], .agg [.bool b, .str t, .bool sp]] => some (.req (small t) (h w b t sp))
  | _ => none⟩
theorem factDP_ok {P : Program} {f : FuncId} {h : Int → Bool → List UInt8 → Bool → Tree SV} (k : ∀ w b t sp, small t = true → (h w b t sp).says (SCall P f [.agg [I64 w], .agg [.bool b, .str t, .bool sp]])) : (factDP f h).ok P := fun args t ht => by
  simp only [factDP] at ht
  split at ht
  · injection ht with ht; subst ht; exact k _ _ _ _
  · cases ht
def fRecv : Fact := factDP 16 fun w b t _ => .leaf (.tuple [.agg [I64 (rcv w b t).1], .str (rcv w b t).2.1, .agg [.bool (rcv w b t).2.2.1, .str (rcv w b t).2.2.2.1, .bool false], .bool (rcv w b t).2.2.2.2])
def fRecvR : Fact := factDP 17 fun w b t _ => .leaf (.tuple [.agg [I64 (rcv w b t).1], .str (rcv w b t).2.1, .agg [.bool (rcv w b t).2.2.1, .str (rcv w b t).2.2.2.1, .bool false], .bool (rcv w b t).2.2.2.2])
end Go.Proofs.Ytibpodgdondakaa
