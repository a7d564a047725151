/-
  G6: the document's reading of numbers, and why both readings agree.
-/
import Derived.Test.YtibpodgdondakaaG5
import Derived.Test.YtibpodgdondakaaGF
set_option linter.unusedSimpArgs false
set_option linter.unusedVariables false
set_option maxRecDepth 100000
namespace Go.Proofs.Ytibpodgdondakaa
open Go.Sx

def least : Int := -9223372036854775808
/-- The negated number of digits, or none. -/
def pAcc : Int → List UInt8 → Option Int
  | n, [] => some n
  | n, b :: l => if n < (least + ((b.toNat : Int) - 48)).tdiv 10 then none else pAcc (10 * n - ((b.toNat : Int) - 48)) l
theorem pAcc_eq : ∀ (l : List UInt8) (n : Int), n ≤ 0 → least ≤ n → digs l = true → pAcc n l = if least ≤ -(valF (-n) l) then some (-(valF (-n) l)) else none
  | [], n, h0, h1, _ => by
    have : -(valF (-n) []) = n := by show -(-n) = n; omega
    rw [this, if_pos h1]; rfl
  | b :: l, n, h0, h1, hd => by
    simp only [digs, List.all_cons, Bool.and_eq_true] at hd
    have hb := isDig_iff.1 hd.1
    unfold pAcc
    rw [valF_cons]
    have e : 10 * -n + ((b.toNat : Int) - 48) = -(10 * n - ((b.toNat : Int) - 48)) := by omega
    rw [e]
    have ht : (least + ((b.toNat : Int) - 48)).tdiv 10 = -((-(least + ((b.toNat : Int) - 48))) / 10) := by
      rw [show least + ((b.toNat : Int) - 48) = -(-(least + ((b.toNat : Int) - 48))) by omega, Int.neg_tdiv, Int.tdiv_eq_ediv_of_nonneg (by unfold least; omega)]
      simp
    rw [ht]
    unfold least at h1 ht ⊢
    split
    · rename_i hlt
      rw [if_neg]
      have := valF_ge l (-(10 * n - ((b.toNat : Int) - 48))) (by omega) hd.2
      omega
    · rename_i hlt
      exact pAcc_eq l _ (by omega) (by unfold least; omega) hd.2
/-- Behind the digits. -/
def pEnd (f : Int) (o : Option Int) : Int × Int := match o with
  | none => (0, 3)
  | some n => if f = 1 then (n, 0) else if n = least then (0, 3) else (-n, 0)
def pRes (f : Int) (d : List UInt8) : Int × Int := if digs d then pEnd f (pAcc 0 d) else (0, 5)
def from_ (s : List UInt8) : Int := if s.head? = some 45 then 1 else 0
def parseV (s : List UInt8) : Int × Int :=
  if s.drop (from_ s).toNat = [] ∨ ((s.drop (from_ s).toNat).head? = some 48 ∧ 1 < s.length) then (0, 5) else pRes (from_ s) (s.drop (from_ s).toNat)
def pS (r : Int × Int) : SV := .tuple [I64 r.1, I64 r.2]

theorem pAcc_range : ∀ (l : List UInt8) (n : Int), n ≤ 0 → least ≤ n → digs l = true → ∀ m, pAcc n l = some m → m ≤ 0 ∧ least ≤ m := by
  intro l n h0 h1 hd m h
  rw [pAcc_eq l n h0 h1 hd] at h
  split at h
  · injection h with h
    have := valF_ge l (-n) (by omega) hd
    omega
  · cases h

structure SA where
  n : Int
  i : Int
theorem parse2_loop (s : List UInt8) (hs : small s = true) (f j : Int) (r : Int × Int) : ∀ a : SA, (0 ≤ a.i ∧ a.i ≤ s.length ∧ a.n ≤ 0 ∧ least ≤ a.n ∧ digs (s.drop a.i.toNat) = true ∧ r = pEnd f (pAcc a.n (s.drop a.i.toNat))) →
    RunsR Try.prog (fnOf Try.prog 51) (pS r) (loopOf Try.prog 51 1) (slotsS 77 [(0, .str s), (4, I64 f), (5, I64 j), (6, I64 a.n), (7, I64 a.i)]) [] := by
  rw [small_iff] at hs
  refine runsR_of (hK (l := []) trivial) (n := 1000) (hint := .unit) rfl (fun a : SA => 0 ≤ a.i ∧ a.i ≤ s.length ∧ a.n ≤ 0 ∧ least ≤ a.n ∧ digs (s.drop a.i.toNat) = true ∧ r = pEnd f (pAcc a.n (s.drop a.i.toNat))) (fun a => ((s.length : Int) - a.i).toNat) (keepS 77 [0, 4, 5, 6, 7]) (fun _ => loopOf Try.prog 51 1) (fun a => slotsS 77 [(0, .str s), (4, I64 f), (5, I64 j), (6, I64 a.n), (7, I64 a.i)]) (fun _ => []) (fun _ => parse2_p) fun a ha => ?_
  obtain ⟨n, i⟩ := a
  obtain ⟨h0, hl, hn, hn2, hd, hr⟩ := ha
  dsimp only at h0 hl hn hn2 hd hr ⊢
  rw [parse2]
  unfold parse2_t
  simp only [Tree.holds, decide_eq_true_eq, decide_eq_false_iff_not, Bool.and_eq_true, beq_iff_eq, beq_eq_false_iff_ne]
  refine ⟨fun h => ?_, fun h => ?_⟩
  · obtain ⟨b, h1, h2⟩ := bt_drop h0 h
    rw [h1] at hd hr
    simp only [digs, List.all_cons, Bool.and_eq_true] at hd
    have hb := isDig_iff.1 hd.1
    have hu : IntKind.u8.wrap ((b.toNat : Int) - 48) = (b.toNat : Int) - 48 := u8_id (by omega) (by omega)
    unfold pAcc at hr
    rw [h2, hu, wrap64 (x := (b.toNat : Int) - 48) (by omega) (by omega), wrap64 (x := -9223372036854775808 + ((b.toNat : Int) - 48)) (by omega) (by omega)]
    have ht : (least + ((b.toNat : Int) - 48)).tdiv 10 = -((-(least + ((b.toNat : Int) - 48))) / 10) := by
      rw [show least + ((b.toNat : Int) - 48) = -(-(least + ((b.toNat : Int) - 48))) by omega, Int.neg_tdiv, Int.tdiv_eq_ediv_of_nonneg (by unfold least; omega)]
      simp
    have ht' : (-9223372036854775808 + ((b.toNat : Int) - 48)).tdiv 10 = -((9223372036854775808 - ((b.toNat : Int) - 48)) / 10) := by
      have e : (-9223372036854775808 + ((b.toNat : Int) - 48)) = least + ((b.toNat : Int) - 48) := rfl
      rw [e, ht]
      unfold least
      congr 2
      omega
    rw [ht', wrap64 (x := -((9223372036854775808 - ((b.toNat : Int) - 48)) / 10)) (by omega) (by omega)]
    have ht2 : (least + ((b.toNat : Int) - 48)).tdiv 10 = -((9223372036854775808 - ((b.toNat : Int) - 48)) / 10) := ht'
    rw [ht2] at hr
    refine ⟨⟨h0, h⟩, by decide, fun c => ?_, fun c => ⟨slotsS_len _ _, .inl ?_⟩⟩
    · rw [if_pos c] at hr
      rw [hr]; rfl
    · rw [if_neg c] at hr
      unfold least at hn2
      rw [wrap64 (x := 10 * n) (by omega) (by omega), wrap64 (by omega) (by omega), wrap64 (by omega) (by omega)]
      exact ⟨⟨10 * n - ((b.toNat : Int) - 48), i + 1⟩, ⟨by dsimp only; omega, by dsimp only; omega, by dsimp only; omega, by dsimp only; unfold least; omega, hd.2, hr⟩, by dsimp only; omega, by trivial, rfl, by trivial⟩
  · have : s.drop i.toNat = [] := List.drop_eq_nil_of_le (by omega)
    rw [this] at hr
    unfold least at hn2
    refine ⟨fun c => ?_, fun c => ⟨fun c2 => ?_, fun c2 => ?_⟩⟩
    · rw [hr]; subst c; rfl
    · rw [hr]; subst c2; simp only [pAcc, pEnd]; rw [if_neg c, show least = -9223372036854775808 from rfl, if_pos rfl]; rfl
    · rw [hr]; simp only [pAcc, pEnd]; rw [if_neg c, show least = -9223372036854775808 from rfl, if_neg c2, wrap64 (by omega) (by omega)]
      show SV.tuple [I64 (0 - n), I64 0] = SV.tuple [I64 (-n), I64 0]
      rw [Int.zero_sub]

theorem parse1_loop (s : List UInt8) (hs : small s = true) (f : Int) (hf : 0 ≤ f ∧ f ≤ s.length) (r : Int × Int) : ∀ i : Int, (f ≤ i ∧ i ≤ s.length ∧ (∀ p : Nat, f ≤ p → (p : Int) < i → ∀ b, s[p]? = some b → isDig b = true) ∧ r = pRes f (s.drop f.toNat)) →
    RunsR Try.prog (fnOf Try.prog 51) (pS r) (loopOf Try.prog 51 0) (slotsS 77 [(0, .str s), (4, I64 f), (5, I64 i), (6, .undef), (7, .undef)]) [] := by
  have hs' := small_iff.1 hs
  refine runsR_of (hK (l := []) trivial) (n := 1000) (hint := .unit) rfl (fun i : Int => f ≤ i ∧ i ≤ s.length ∧ (∀ p : Nat, f ≤ p → (p : Int) < i → ∀ b, s[p]? = some b → isDig b = true) ∧ r = pRes f (s.drop f.toNat)) (fun i => ((s.length : Int) - i).toNat) (keepS 77 [0, 4, 5, 6, 7]) (fun _ => loopOf Try.prog 51 0) (fun i => slotsS 77 [(0, .str s), (4, I64 f), (5, I64 i), (6, .undef), (7, .undef)]) (fun _ => []) (fun _ => parse1_p) fun i hi => ?_
  obtain ⟨h0, hl, hp, hr⟩ := hi
  rw [parse1]
  unfold parse1_t
  simp only [Tree.holds, decide_eq_true_eq, decide_eq_false_iff_not, Bool.and_eq_true]
  have inDigs : digs (s.drop f.toNat) = true ↔ ∀ p : Nat, f ≤ p → ∀ b, s[p]? = some b → isDig b = true := by
    simp only [digs, List.all_eq_true]
    constructor
    · intro h p hp b hb
      refine h b (List.mem_of_getElem? (i := p - f.toNat) ?_)
      rw [List.getElem?_drop, show f.toNat + (p - f.toNat) = p by omega]; exact hb
    · intro h b hb
      obtain ⟨k, hk⟩ := List.getElem?_of_mem hb
      rw [List.getElem?_drop] at hk
      exact h _ (by omega) b hk
  refine ⟨fun h => ?_, fun h => ⟨slotsS_len _ _, .inr ?_⟩⟩
  · obtain ⟨b, h1, h2⟩ := bt_get (s := s) (i := i) (by omega) h
    have bad : isDig b = false → SV.tuple [I64 0, I64 5] = pS r := fun hb => by
      rw [hr]; unfold pRes
      rw [if_neg]
      · rfl
      · intro hd
        have := inDigs.1 hd i.toNat (by omega) b h1
        rw [hb] at this; cases this
    rw [h2]
    refine ⟨⟨by omega, h⟩, fun c1 => bad ?_, fun c1 => ⟨⟨by omega, h⟩, fun c2 => bad ?_, fun c2 => ⟨slotsS_len _ _, .inl ?_⟩⟩⟩
    · rw [← Bool.not_eq_true, isDig_iff]; omega
    · rw [← Bool.not_eq_true, isDig_iff]; omega
    · rw [wrap64 (by omega) (by omega)]
      refine ⟨i + 1, ⟨by omega, by omega, fun p hp1 hp2 b' hb' => ?_, hr⟩, by omega, by trivial, rfl, by trivial⟩
      by_cases hpi : (p : Int) < i
      · exact hp p hp1 hpi b' hb'
      · have : p = i.toNat := by omega
        subst this
        rw [h1] at hb'; injection hb' with hb'; subst hb'
        rw [isDig_iff]; omega
  · have hd : digs (s.drop f.toNat) = true := inDigs.2 fun p hp1 b hb => hp p hp1 (by have := (List.getElem?_eq_some_iff.1 hb).1; omega) b hb
    unfold pRes at hr
    rw [if_pos hd] at hr
    exact parse2_loop s hs f i r ⟨0, f⟩ ⟨hf.1, hf.2, by dsimp only; omega, by dsimp only; unfold least; omega, hd, hr⟩

theorem s_parse (s : List UInt8) (hs : small s = true) : SCall Try.prog 51 [.str s] (pS (parseV s)) := by
  refine scallR_loops rfl rfl (by kernel_rfl) (runsR_seg (hK (l := []) trivial) (n := 1000) (hint := .unit) (keep := keepS 77 [0, 4, 5, 6, 7]) (p := parse0_p) (boxes := []) rfl ?_)
  have e := parse0 s
  unfold startS codeS at e
  erw [e]
  unfold parse0_t
  have go : ∀ f : Int, from_ s = f → (f = 0 ∨ f = 1) → f < s.length → ¬ ((s.drop f.toNat).head? = some 48 ∧ 1 < s.length) → RunsR Try.prog (fnOf Try.prog 51) (pS (parseV s)) (loopOf Try.prog 51 0) (slotsS 77 [(0, .str s), (4, I64 f), (5, I64 f), (6, .undef), (7, .undef)]) [] := by
    intro f hf h01 hlt hh
    refine parse1_loop s hs f (by omega) _ f ⟨Int.le_refl _, by omega, fun p h1 h2 => by omega, ?_⟩
    unfold parseV
    rw [hf, if_neg]
    rintro (h | h)
    · have := congrArg List.length h
      rw [List.length_drop] at this
      simp at this; omega
    · exact hh h
  have bad : ∀ f : Int, from_ s = f → (s.drop f.toNat = [] ∨ ((s.drop f.toNat).head? = some 48 ∧ 1 < s.length)) → SV.tuple [I64 0, I64 5] = pS (parseV s) := by
    intro f hf h
    unfold parseV
    rw [hf, if_pos h]; rfl
  have hh : ∀ i : Int, 0 ≤ i → i < s.length → ((s.drop i.toNat).head? = some 48 ↔ bt s i = 48) := by
    intro i h0 h
    obtain ⟨b, h1, h2⟩ := bt_drop h0 h
    rw [h1, h2, head48]
    simp
  have h45 : 0 < s.length → (s.head? = some 45 ↔ bt s 0 = 45) := by
    intro h
    obtain ⟨b, h1, h2⟩ := bt_drop (s := s) (i := 0) (by omega) (by omega)
    have h1 : s = b :: s.drop 1 := h1
    rw [h2]
    rw [h1]
    simp only [List.head?_cons, Option.some.injEq]
    have e45 : (45 : UInt8).toNat = 45 := rfl
    exact ⟨fun h => by rw [h]; rfl, fun h => UInt8.toNat_inj.1 (by omega)⟩
  simp only [Tree.holds, decide_eq_true_eq, decide_eq_false_iff_not, Bool.and_eq_true, beq_iff_eq, beq_eq_false_iff_ne, true_and]
  refine ⟨fun hp => ⟨by omega, fun c => ?_, fun c => ?_⟩, fun hp => ?_⟩
  · have hf : from_ s = 1 := by unfold from_; rw [if_pos ((h45 (by omega)).2 c)]
    refine ⟨fun h1 => bad 1 hf (.inl (List.drop_eq_nil_of_le (by omega))), fun h1 => ⟨by omega, fun h2 => ⟨fun h3 => ?_, fun h3 => by omega⟩, fun h2 => ⟨slotsS_len _ _, ?_⟩⟩⟩
    · exact bad 1 hf (.inr ⟨(hh 1 (by omega) (by omega)).2 h2, by omega⟩)
    · exact go 1 hf (.inr rfl) (by omega) (fun h => h2 ((hh 1 (by omega) (by omega)).1 h.1))
  · have hf : from_ s = 0 := by unfold from_; rw [if_neg (fun h => c ((h45 (by omega)).1 h))]
    refine ⟨fun h1 => by omega, fun h1 => ⟨by omega, fun h2 => ⟨fun h3 => ?_, fun h3 => ⟨slotsS_len _ _, ?_⟩⟩, fun h2 => ⟨slotsS_len _ _, ?_⟩⟩⟩
    · exact bad 0 hf (.inr ⟨(hh 0 (by omega) (by omega)).2 h2, by omega⟩)
    · exact go 0 hf (.inl rfl) (by omega) (fun h => by omega)
    · exact go 0 hf (.inl rfl) (by omega) (fun h => h2 ((hh 0 (by omega) (by omega)).1 h.1))
  · have hnil : s = [] := List.eq_nil_of_length_eq_zero (by omega)
    subst hnil
    exact ⟨fun _ => rfl, fun h => absurd rfl h⟩

/-! ### Both readings -/

theorem val_pos {b : UInt8} {l : List UInt8} (hb : isDig b = true) (h48 : b ≠ 48) (hd : digs l = true) : 1 ≤ val (b :: l) := by
  have h1 := isDig_iff.1 hb
  have h2 : (b.toNat : Int) ≠ 48 := fun h => h48 (head48.1 h)
  unfold val
  rw [valF_cons]
  have := valF_ge l (10 * 0 + ((b.toNat : Int) - 48)) (by omega) hd
  omega

theorem numV_eq {M : Int} (hM : 0 ≤ M) (s : List UInt8) (v : Int) : numV M s = some v ↔ s ≠ [] ∧ lead0 s = false ∧ digs s = true ∧ val s ≤ M ∧ v = val s := by
  unfold numV
  rw [numR_eq s 0 (Int.le_refl 0) hM]
  by_cases h : s = [] ∨ lead0 s = true
  · rw [if_pos h]
    constructor
    · intro h2; cases h2
    · rintro ⟨h1, h2, _⟩
      rcases h with h | h
      · exact absurd h h1
      · rw [h] at h2; cases h2
  · rw [if_neg h]
    have h1 : s ≠ [] := fun e => h (.inl e)
    have h2 : lead0 s = false := by
      rw [← Bool.not_eq_true]; exact fun e => h (.inr e)
    by_cases hc : digs s = true ∧ valF 0 s ≤ M
    · rw [if_pos hc]
      constructor
      · intro e; injection e with e; exact ⟨h1, h2, hc.1, hc.2, e.symm⟩
      · rintro ⟨_, _, _, _, rfl⟩; rfl
    · rw [if_neg hc]
      constructor
      · intro e; cases e
      · rintro ⟨_, _, a, b, _⟩; exact absurd ⟨a, b⟩ hc

theorem parse_num {M : Int} (hM : 0 ≤ M) (hM2 : M ≤ 4398046511104) (s : List UInt8) (v : Int) : numV M s = some v ↔ (parseV s = (v, 0) ∧ 0 ≤ v ∧ v ≤ M) := by
  rw [numV_eq hM]
  cases s with
  | nil =>
    constructor
    · rintro ⟨h, _⟩; exact absurd rfl h
    · rintro ⟨h, _⟩
      have : parseV [] = (0, 5) := rfl
      rw [this] at h; injection h with _ h; cases h
  | cons b l =>
    by_cases h45 : b = 45
    · -- a minus
      subst h45
      have hf : from_ (45 :: l) = 1 := rfl
      have hdr : (45 :: l).drop (1 : Int).toNat = l := rfl
      have nd : digs (45 :: l) = false := rfl
      constructor
      · rintro ⟨_, _, h, _⟩; rw [nd] at h; cases h
      · rintro ⟨h, h0, hv⟩
        exfalso
        unfold parseV at h
        rw [hf, hdr] at h
        split at h
        · injection h with _ h; cases h
        · rename_i hn
          cases l with
          | nil => exact hn (.inl rfl)
          | cons d l =>
            have hd48 : d ≠ 48 := fun e => hn (.inr ⟨by rw [e]; rfl, by simp⟩)
            unfold pRes at h
            split at h
            · rename_i hdg
              have hdg' := hdg
              simp only [digs, List.all_cons, Bool.and_eq_true] at hdg
              have hp := val_pos hdg.1 hd48 hdg.2
              rw [pAcc_eq _ 0 (Int.le_refl 0) (by unfold least; omega) hdg'] at h
              have e0 : valF (-0) (d :: l) = val (d :: l) := rfl
              rw [e0] at h
              split at h
              · simp only [pEnd, if_true] at h
                injection h with h _
                omega
              · simp only [pEnd] at h
                injection h with _ h; cases h
            · injection h with _ h; cases h
    · have hf : from_ (b :: l) = 0 := by unfold from_; rw [if_neg (by simpa using h45)]
      have hdr : (b :: l).drop (0 : Int).toNat = b :: l := rfl
      have hl0 : lead0 (b :: l) = true ↔ (b = 48 ∧ 1 < (b :: l).length) := by
        simp [lead0]
      unfold parseV
      rw [hf, hdr]
      constructor
      · rintro ⟨_, hl, hd, hv, rfl⟩
        have hge : 0 ≤ val (b :: l) := valF_ge _ 0 (Int.le_refl 0) hd
        refine ⟨?_, hge, hv⟩
        rw [if_neg]
        · unfold pRes
          rw [if_pos hd, pAcc_eq _ 0 (Int.le_refl 0) (by unfold least; omega) hd]
          have e0 : valF (-0) (b :: l) = val (b :: l) := rfl
          rw [e0, if_pos (by unfold least; omega)]
          simp only [pEnd]
          rw [if_neg (by decide), if_neg (by unfold least; omega)]
          simp
        · rintro (h | h)
          · cases h
          · have := hl0.2 ⟨by simpa using h.1, h.2⟩
            rw [hl] at this; cases this
      · rintro ⟨h, h0, hv⟩
        split at h
        · injection h with _ h; cases h
        · rename_i hn
          unfold pRes at h
          split at h
          · rename_i hd
            rw [pAcc_eq _ 0 (Int.le_refl 0) (by unfold least; omega) hd] at h
            have e0 : valF (-0) (b :: l) = val (b :: l) := rfl
            rw [e0] at h
            have hl : lead0 (b :: l) = false := by
              rw [← Bool.not_eq_true, hl0]
              rintro ⟨e1, e2⟩
              exact hn (.inr ⟨by rw [e1]; rfl, e2⟩)
            split at h
            · simp only [pEnd] at h
              rw [if_neg (by decide)] at h
              split at h
              · injection h with _ h; cases h
              · injection h with h _
                rw [Int.neg_neg] at h
                exact ⟨by simp, hl, hd, by omega, h.symm⟩
            · simp only [pEnd] at h
              injection h with _ h; cases h
          · injection h with _ h; cases h
end Go.Proofs.Ytibpodgdondakaa
