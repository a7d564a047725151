/-
  GF: the decimal texts of numbers: both programs write the same.
-/
import Derived.Test.YtibpodgdondakaaG2
set_option linter.unusedSimpArgs false
set_option linter.unusedVariables false
set_option maxRecDepth 100000
namespace Go.Proofs.Ytibpodgdondakaa
open Go.Sx

/-- The size of a number. -/
def size (n : Int) : Int := if n < 0 then IntKind.u64.wrap (0 - IntKind.u64.wrap n) else IntKind.u64.wrap n
/-- Its digits, the last one first (at most so many). -/
def rd : Nat → Int → List Int
  | 0, _ => []
  | k + 1, u => (48 + u % 10) :: if 0 < u / 10 then rd k (u / 10) else []
def toB (l : List Int) : List UInt8 := List.map (fun n => UInt8.ofNat (Int.toNat n)) l
def backs (n : Int) : List Int := rd 20 (size n) ++ if n < 0 then [45] else []
def fmt (n : Int) : List UInt8 := toB (backs n).reverse

theorem u64_def (n : Int) : IntKind.u64.wrap n = n % 18446744073709551616 := by
  have h2 : IntKind.wrap .u64 n = if false && decide (n % 18446744073709551616 ≥ 9223372036854775808) then n % 18446744073709551616 - 18446744073709551616 else n % 18446744073709551616 := rfl
  rw [h2]; simp
theorem u64_id {n : Int} (h : 0 ≤ n) (h2 : n < 18446744073709551616) : IntKind.u64.wrap n = n := by rw [u64_def]; omega
theorem size_range (n : Int) : 0 ≤ size n ∧ size n < 18446744073709551616 := by
  unfold size
  split <;> rw [u64_def] <;> omega
theorem u8_id {n : Int} (h : 0 ≤ n) (h2 : n < 256) : IntKind.u8.wrap n = n := by
  have h3 : IntKind.wrap .u8 n = if false && decide (n % 256 ≥ 128) then n % 256 - 256 else n % 256 := rfl
  rw [h3]
  simp only [Bool.false_and, Bool.false_eq_true, if_false]
  omega
theorem digit {u : Int} (h : 0 ≤ u) : IntKind.u8.wrap (IntKind.u64.wrap (48 + u.tmod 10)) = 48 + u % 10 := by
  rw [Int.tmod_eq_emod_of_nonneg h, u64_id (by omega) (by omega), u8_id (by omega) (by omega)]
theorem tenth {u : Int} (h : 0 ≤ u) (h2 : u < 18446744073709551616) : IntKind.u64.wrap (u.tdiv 10) = u / 10 := by
  rw [Int.tdiv_eq_ediv_of_nonneg h, u64_id (by omega) (by omega)]

theorem rd_len : ∀ (k : Nat) (u : Int), (rd k u).length ≤ k
  | 0, _ => Nat.le_refl _
  | k + 1, u => by
    unfold rd
    have := rd_len k (u / 10)
    split <;> simp <;> omega
theorem backs_len (n : Int) : (backs n).length ≤ 21 ∧ 0 < (backs n).length := by
  have := rd_len 20 (size n)
  unfold backs
  constructor
  · split <;> simp <;> omega
  · unfold rd; simp

/-! ### The second loop: the bytes are turned round -/

structure S2 where
  u : Int
  l : List Int
  i : Int
  k : Int
def turned (E l : List Int) (i k : Int) : Prop := l.length = E.length ∧ 0 ≤ i ∧ i + k = (E.length : Int) - 1 ∧ ∀ j : Nat, j < E.length → l.getD j 0 = if (j : Int) < i ∨ k < j then E.getD (E.length - 1 - j) 0 else E.getD j 0

theorem getD_set (l : List Int) (a : Nat) (v : Int) (j : Nat) (h : a < l.length) : (l.set a v).getD j 0 = if j = a then v else l.getD j 0 := by
  rw [List.getD_eq_getElem?_getD, List.getElem?_set, List.getD_eq_getElem?_getD]
  by_cases hj : j = a
  · subst hj; simp [h]
  · rw [if_neg (Ne.symm hj), if_neg hj]

theorem turned_step {E l : List Int} {i k : Int} (h : turned E l i k) (hik : i < k) : turned E ((l.set i.toNat (l.getD k.toNat 0)).set k.toNat (l.getD i.toNat 0)) (i + 1) (k - 1) := by
  obtain ⟨h1, h2, h3, h4⟩ := h
  refine ⟨by simp [h1], by omega, by omega, fun j hj => ?_⟩
  rw [getD_set _ _ _ _ (by simp; omega), getD_set _ _ _ _ (by omega)]
  have hk := h4 k.toNat (by omega)
  have hi := h4 i.toNat (by omega)
  rw [if_neg (by omega)] at hk hi
  by_cases c1 : j = k.toNat
  · rw [if_pos c1, if_pos (by omega), hi]
    congr 1; omega
  · rw [if_neg c1]
    by_cases c2 : j = i.toNat
    · rw [if_pos c2, if_pos (by omega), hk]
      congr 1; omega
    · rw [if_neg c2, h4 j hj]
      by_cases c3 : (j : Int) < i ∨ k < j
      · rw [if_pos c3, if_pos (by omega)]
      · rw [if_neg c3, if_neg (by omega)]

theorem turned_end {E l : List Int} {i k : Int} (h : turned E l i k) (hik : k ≤ i) : l = E.reverse := by
  obtain ⟨h1, h2, h3, h4⟩ := h
  refine List.ext_getElem? fun j => ?_
  by_cases hj : j < E.length
  · have := h4 j hj
    rw [List.getD_eq_getElem?_getD, List.getElem?_eq_getElem (by omega)] at this
    rw [List.getElem?_eq_getElem (by omega), List.getElem?_reverse hj, List.getElem?_eq_getElem (by omega)]
    congr 1
    simp only [Option.getD_some] at this
    rw [this]
    by_cases c : (j : Int) < i ∨ k < j
    · rw [if_pos c, List.getD_eq_getElem?_getD, List.getElem?_eq_getElem (by omega)]; rfl
    · rw [if_neg c, List.getD_eq_getElem?_getD, List.getElem?_eq_getElem (by omega)]
      simp only [Option.getD_some]
      congr 1; omega
  · rw [List.getElem?_eq_none (by omega), List.getElem?_eq_none (by simp; omega)]

theorem fmt2_leaves {n u : Int} {l E : List Int} {i k : Int} (h : turned E l i k) (hE : E.length ≤ 21) (Q : Stop → Prop) (q1 : Q (.done (.str (toB E.reverse))))
    (q2 : ∀ l' , turned E l' (i + 1) (k - 1) → i < k → Q (Stop.at (loopOf Try.prog 39 1) 58 (slotsS 58 [(0, I64 n), (3, SV.int IntKind.u64 u), (4, SV.row 0), (5, I64 (i + 1)), (6, I64 (k - 1))]) [some (Box.rows (Ty.int IntKind.u8) l')])) : (fmt2_t n u l i k).holds Q := by
  obtain ⟨h1, h2, h3, h4⟩ := id h
  have hd : ∀ j : Nat, l.getD j (Ty.dflt (Ty.int IntKind.u8)) = l.getD j 0 := fun _ => rfl
  unfold fmt2_t
  have hl1 : ∀ (j : Nat) (v : Int), (List.set l j v).length = l.length := fun j v => List.length_set
  simp only [Tree.holds, decide_eq_true_eq, decide_eq_false_iff_not, Bool.and_eq_true]
  refine ⟨fun hik => ?_, fun hik => ?_⟩
  · have e := q2 _ (turned_step h hik) hik
    rw [wrap64 (by omega) (by omega), wrap64 (by omega) (by omega)]
    have hs : (List.set (α := Int) l i.toNat (l.getD k.toNat 0)).length = l.length := List.length_set
    refine ⟨⟨by omega, by omega⟩, by omega, ⟨by omega, by omega⟩, by omega, ⟨by omega, by omega⟩, by omega, ⟨by omega, ?_⟩, ?_, e⟩
    · exact hs ▸ (by omega)
    · exact hs ▸ (by omega)
  · rw [turned_end h (by omega)]; exact q1

theorem fmt2_loop (n : Int) : ∀ s : S2, turned (backs n) s.l s.i s.k → RunsR Try.prog (fnOf Try.prog 39) (.str (fmt n)) (loopOf Try.prog 39 1) (slotsS 58 [(0, I64 n), (3, .int .u64 s.u), (4, .row 0), (5, I64 s.i), (6, I64 s.k)]) [some (.rows (.int .u8) s.l)] := by
  refine runsR_of (hK (l := []) trivial) (n := 1000) (hint := .unit) rfl (fun s : S2 => turned (backs n) s.l s.i s.k) (fun s => (s.k - s.i + 2).toNat) (keepS 58 [0, 3, 4, 5, 6]) (fun _ => loopOf Try.prog 39 1) (fun s => slotsS 58 [(0, I64 n), (3, .int .u64 s.u), (4, .row 0), (5, I64 s.i), (6, I64 s.k)]) (fun s => [some (.rows (.int .u8) s.l)]) (fun _ => fmt2_p) fun s hs => ?_
  rw [fmt2]
  refine fmt2_leaves hs (backs_len n).1 _ rfl fun l' hl hik => ?_
  refine ⟨slotsS_len _ _, .inl ⟨⟨s.u, l', s.i + 1, s.k - 1⟩, hl, ?_, rfl, rfl, rfl⟩⟩
  dsimp only; omega

theorem turned_start (E : List Int) : turned E E 0 ((E.length : Int) - 1) := by
  refine ⟨rfl, by omega, by omega, fun j hj => ?_⟩
  rw [if_neg (by omega)]

/-! ### The first loop: the digits -/

structure S1 where
  u : Int
  l : List Int
  k : Nat
def more (k : Nat) (u : Int) : List Int := if 0 < u then rd k u else []
def S1.inv (n : Int) (s : S1) : Prop := 0 ≤ s.u ∧ s.u < 10 ^ s.k ∧ s.k ≤ 19 ∧ s.l ++ more s.k s.u = rd 20 (size n)

theorem more_step {k : Nat} {u : Int} (h : 0 < u) (hk : u < 10 ^ k) : ∃ k', k = k' + 1 ∧ more k u = (48 + u % 10) :: more k' (u / 10) ∧ u / 10 < 10 ^ k' := by
  cases k with
  | zero => simp at hk; omega
  | succ k =>
    refine ⟨k, rfl, ?_, ?_⟩
    · unfold more; rw [if_pos h]; rfl
    · rw [Int.pow_succ] at hk; omega
theorem pow_le19 {k : Nat} (h : k ≤ 19) : (10 : Int) ^ k ≤ 10000000000000000000 := by
  have : (10 : Int) ^ k ≤ 10 ^ 19 := by
    exact_mod_cast Nat.pow_le_pow_right (by omega) h
  omega

theorem inv_len {n : Int} {s : S1} (h : s.inv n) : s.l.length ≤ 20 := by
  have := congrArg List.length h.2.2.2
  have h2 := rd_len 20 (size n)
  rw [List.length_append] at this
  omega

theorem fmt1_loop (n : Int) : ∀ s : S1, s.inv n → 0 < s.l.length → RunsR Try.prog (fnOf Try.prog 39) (.str (fmt n)) (loopOf Try.prog 39 0) (slotsS 58 [(0, I64 n), (3, .int .u64 s.u), (4, .row 0), (5, .undef), (6, .undef)]) [some (.rows (.int .u8) s.l)] := by
  intro s hs hpos
  refine runsR_of (hK (l := []) trivial) (n := 1000) (hint := .unit) rfl (fun s : S1 => s.inv n ∧ 0 < s.l.length) (fun s => s.u.toNat) (keepS 58 [0, 3, 4, 5, 6]) (fun _ => loopOf Try.prog 39 0) (fun s => slotsS 58 [(0, I64 n), (3, .int .u64 s.u), (4, .row 0), (5, .undef), (6, .undef)]) (fun s => [some (.rows (.int .u8) s.l)]) (fun _ => fmt1_p) (fun s hs => ?_) s ⟨hs, hpos⟩
  obtain ⟨hs, hpos⟩ := hs
  have hlen := inv_len hs
  obtain ⟨u, l, k⟩ := s
  obtain ⟨h0, hk, hk19, hl⟩ := hs
  dsimp only at h0 hk hk19 hl hlen hpos ⊢
  have h19 := pow_le19 hk19
  rw [fmt1]
  unfold fmt1_t
  rw [digit h0, tenth h0 (by omega)]
  simp only [Tree.holds, decide_eq_true_eq, decide_eq_false_iff_not]
  refine ⟨fun hu => ⟨by decide, ?_, by decide, slotsS_len _ _, .inl ?_⟩, fun hu => ⟨fun hn => ⟨?_, slotsS_len _ _, .inr ?_⟩, fun hn => ⟨slotsS_len _ _, .inr ?_⟩⟩⟩
  · simp; omega
  · obtain ⟨k', rfl, hm, hk'⟩ := more_step hu hk
    refine ⟨⟨u / 10, l ++ [48 + u % 10], k'⟩, ⟨⟨by dsimp only; omega, hk', by dsimp only; omega, ?_⟩, by simp⟩, ?_, by trivial, rfl, rfl⟩
    · dsimp only; rw [← hl, hm]; simp
    · dsimp only; omega
  · simp; omega
  · have hb : l ++ [45] = backs n := by
      unfold backs; rw [if_pos hn, ← hl]; unfold more; rw [if_neg hu]; simp
    have hln : ((List.length (α := Int) (l ++ [45]) : Nat) : Int) = (l.length : Int) + 1 := by simp
    have := fmt2_loop n ⟨u, l ++ [45], 0, ((backs n).length : Int) - 1⟩ (by rw [hb]; exact turned_start _)
    rw [← hb] at this
    rw [wrap64 (by omega) (by omega)]
    exact this
  · have hb : l = backs n := by
      unfold backs; rw [if_neg hn, ← hl]; unfold more; rw [if_neg hu]; simp
    have := fmt2_loop n ⟨u, l, 0, ((backs n).length : Int) - 1⟩ (by rw [hb]; exact turned_start _)
    rw [← hb] at this
    rw [wrap64 (by omega) (by omega)]
    exact this

theorem pow19 : (10 : Int) ^ 19 = 10000000000000000000 := by decide

theorem fmt2a_runs (n u d : Int) (h : backs n = [d]) : RunsR Try.prog (fnOf Try.prog 39) (.str (fmt n)) (loopOf Try.prog 39 1) (slotsS 58 [(0, I64 n), (3, .int .u64 u), (4, .arr 0 0 1), (5, I64 0), (6, I64 0)]) [some (.cells [.int .u8 d])] := by
  refine runsR_seg (hK (l := []) trivial) (n := 1000) (hint := .unit) (keep := keepS 58 [0, 3, 4, 5, 6]) (p := fmt2a_p) rfl ?_
  rw [fmt2a]
  unfold fmt2a_t fmt
  rw [h]
  first | exact rfl | (simp only [Tree.holds]; exact rfl)

theorem fmt1a_runs (n u d : Int) (h0 : 0 ≤ u) (hu : u < 10 ^ 19) (h : [d] ++ more 19 u = rd 20 (size n)) : RunsR Try.prog (fnOf Try.prog 39) (.str (fmt n)) (loopOf Try.prog 39 0) (slotsS 58 [(0, I64 n), (3, .int .u64 u), (4, .arr 0 0 1), (5, .undef), (6, .undef)]) [some (.cells [.int .u8 d])] := by
  refine runsR_seg (hK (l := []) trivial) (n := 1000) (hint := .unit) (keep := keepS 58 [0, 3, 4, 5, 6]) (p := fmt1a_p) rfl ?_
  rw [fmt1a]
  unfold fmt1a_t
  have h19 := pow19
  rw [digit h0, tenth h0 (by omega)]
  simp only [Tree.holds, decide_eq_true_eq, decide_eq_false_iff_not, Bool.and_eq_true]
  refine ⟨fun hp => ⟨by decide, by simp, by decide, slotsS_len _ _, ?_⟩, fun hp => ⟨fun hn => ⟨by simp, slotsS_len _ _, ?_⟩, fun hn => ⟨slotsS_len _ _, ?_⟩⟩⟩
  · obtain ⟨k', hk, hm, hk'⟩ := more_step hp hu
    obtain rfl : k' = 18 := by omega
    refine fmt1_loop n ⟨u / 10, [d] ++ [48 + u % 10], 18⟩ ⟨by dsimp only; omega, hk', by dsimp only; omega, ?_⟩ (by simp)
    dsimp only; rw [← h, hm]; simp
  · have hb : [d] ++ [45] = backs n := by
      unfold backs; rw [if_pos hn, ← h]; unfold more; rw [if_neg hp]; simp
    have := fmt2_loop n ⟨u, [d] ++ [45], 0, ((backs n).length : Int) - 1⟩ (by rw [hb]; exact turned_start _)
    rw [← hb] at this
    exact this
  · exact fmt2a_runs n u d (by unfold backs; rw [if_neg hn, ← h]; unfold more; rw [if_neg hp]; simp)

theorem s_fmt (n : Int) : SCall Try.prog 39 [I64 n] (.str (fmt n)) := by
  refine scallR_loops rfl rfl (by kernel_rfl) (runsR_seg (hK (l := []) trivial) (n := 1000) (hint := .unit) (keep := keepS 58 [0, 3, 4, 5, 6]) (p := fmt0_p) (boxes := []) rfl ?_)
  have e := fmt0 n
  unfold startS codeS at e
  erw [e]
  unfold fmt0_t
  have hr := size_range n
  have key : ∀ u, size n = u → RunsR Try.prog (fnOf Try.prog 39) (.str (fmt n)) (loopOf Try.prog 39 0) (slotsS 58 [(0, I64 n), (3, .int .u64 (IntKind.u64.wrap (u.tdiv 10))), (4, .arr 0 0 1), (5, .undef), (6, .undef)]) [some (.cells [.int .u8 (IntKind.u8.wrap (IntKind.u64.wrap (48 + u.tmod 10)))])] := by
    intro u hu
    rw [hu] at hr
    have h19 := pow19
    rw [digit hr.1, tenth hr.1 hr.2]
    refine fmt1a_runs n _ _ (by omega) (by omega) ?_
    rw [hu]; rfl
  simp only [Tree.holds, decide_eq_true_eq, decide_eq_false_iff_not]
  refine ⟨fun h => ⟨by decide, by decide, slotsS_len _ _, key _ (by unfold size; rw [if_pos h])⟩, fun h => ⟨by decide, by decide, slotsS_len _ _, key _ (by unfold size; rw [if_neg h])⟩⟩

/-! ### The document's way -/

structure SF where
  s : List UInt8
  u : Int
  b : Bool
  k : Nat
  P : List Int
def SF.inv (n : Int) (x : SF) : Prop := 0 ≤ x.u ∧ x.u < 10 ^ x.k ∧ x.u < 18446744073709551616 ∧ (x.b = true → 1 ≤ x.k) ∧ x.s = toB x.P.reverse ∧ x.P ++ (if x.b then rd x.k x.u else []) = rd 20 (size n)

theorem fmtR_loop (n : Int) : ∀ x : SF, x.inv n → RunsR Try.prog (fnOf Try.prog 42) (.str (fmt n)) (loopOf Try.prog 42 0) (slotsS 26 [(0, I64 n), (3, .str x.s), (4, .int .u64 x.u), (5, .bool x.b)]) [] := by
  refine runsR_of (hK (l := []) trivial) (n := 1000) (hint := .unit) rfl (fun x : SF => x.inv n) (fun x => x.k + (if x.b then 1 else 0)) (keepS 26 [0, 3, 4, 5]) (fun _ => loopOf Try.prog 42 0) (fun x => slotsS 26 [(0, I64 n), (3, .str x.s), (4, .int .u64 x.u), (5, .bool x.b)]) (fun x => []) (fun _ => fmtR1_p) (fun x hx => ?_)
  obtain ⟨s, u, b, k, P⟩ := x
  obtain ⟨h0, hk, h64, hb, hs, hP⟩ := hx
  dsimp only at h0 hk h64 hb hs hP ⊢
  have hPl : P.length ≤ 20 := by
    have := congrArg List.length hP
    have h2 := rd_len 20 (size n)
    rw [List.length_append] at this
    omega
  have hsl : s.length ≤ 20 := by rw [hs]; simpa [toB] using hPl
  rw [fmtR1]
  unfold fmtR1_t
  rw [digit h0, tenth h0 h64]
  simp only [Tree.holds, decide_eq_true_eq, decide_eq_false_iff_not]
  refine ⟨fun hbt => ⟨by decide, ?_, by decide, slotsS_len _ _, .inl ?_⟩, fun hbf => ⟨fun hn => ⟨?_, ?_⟩, fun hn => ?_⟩⟩
  · simp; omega
  · subst hbt
    obtain ⟨k', rfl⟩ : ∃ k', k = k' + 1 := ⟨k - 1, by have := hb rfl; omega⟩
    have hk2 : u / 10 < 10 ^ k' := by rw [Int.pow_succ] at hk; omega
    refine ⟨⟨_, u / 10, decide (u / 10 > 0), k', P ++ [48 + u % 10]⟩, ⟨by dsimp only; omega, hk2, by dsimp only; omega, fun hd => ?_, ?_, ?_⟩, ?_, by trivial, rfl, by trivial⟩
    · dsimp only at hd ⊢
      simp only [decide_eq_true_eq] at hd
      cases k' with
      | zero => simp at hk2; omega
      | succ k' => omega
    · dsimp only; rw [hs]; simp [toB]
    · dsimp only
      rw [← hP, if_pos rfl]
      have e : rd (k' + 1) u = (48 + u % 10) :: if 0 < u / 10 then rd k' (u / 10) else [] := rfl
      rw [e]
      simp only [decide_eq_true_eq, gt_iff_lt, List.append_assoc, List.singleton_append]
    · dsimp only
      simp
      split <;> omega
  · simp; omega
  · subst hbf
    show SV.str ([45] ++ s) = SV.str (fmt n)
    have : P = rd 20 (size n) := by rw [← hP]; simp
    rw [hs, this]
    unfold fmt backs
    rw [if_pos hn]
    simp [toB]
  · subst hbf
    show SV.str s = SV.str (fmt n)
    have : P = rd 20 (size n) := by rw [← hP]; simp
    rw [hs, this]
    unfold fmt backs
    rw [if_neg hn]
    simp [toB]

theorem s_fmtR (n : Int) : SCall Try.prog 42 [I64 n] (.str (fmt n)) := by
  refine scallR_loops rfl rfl (by kernel_rfl) (runsR_seg (hK (l := []) trivial) (n := 1000) (hint := .unit) (keep := keepS 26 [0, 3, 4, 5]) (p := fmtR0_p) (boxes := []) rfl ?_)
  have e := fmtR0 n
  unfold startS codeS at e
  erw [e]
  unfold fmtR0_t
  have hr := size_range n
  have key : ∀ u, size n = u → RunsR Try.prog (fnOf Try.prog 42) (.str (fmt n)) (loopOf Try.prog 42 0) (slotsS 26 [(0, I64 n), (3, .str []), (4, .int .u64 u), (5, .bool true)]) [] := by
    intro u hu
    rw [hu] at hr
    refine fmtR_loop n ⟨[], u, true, 20, []⟩ ⟨hr.1, ?_, hr.2, fun _ => by dsimp only; omega, rfl, ?_⟩
    · have : (10 : Int) ^ 20 = 100000000000000000000 := by decide
      dsimp only; omega
    · dsimp only; rw [hu]; simp
  simp only [Tree.holds, decide_eq_true_eq, decide_eq_false_iff_not]
  refine ⟨fun h => ⟨slotsS_len _ _, key _ (by unfold size; rw [if_pos h])⟩, fun h => ⟨slotsS_len _ _, key _ (by unfold size; rw [if_neg h])⟩⟩
def fFmt : Fact := factI 39 fun n => .leaf (.str (fmt n))
def fFmtR : Fact := factI 42 fun n => .leaf (.str (fmt n))
theorem o_fmt : fFmt.ok Try.prog := factI_ok s_fmt
theorem o_fmtR : fFmtR.ok Try.prog := factI_ok s_fmtR
end Go.Proofs.Ytibpodgdondakaa
