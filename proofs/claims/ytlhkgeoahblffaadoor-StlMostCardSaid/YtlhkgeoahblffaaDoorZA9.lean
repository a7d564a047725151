/-
  Q: the reference's lines, words and corner: contracts.
  R: the reference's corner: contract.
  GS: the segments of the reference's Parse. Written by gen.py.
  SX 24: functions that turn a row of their caller: what they leave, and how such a fact is said.
  SX 25: a state says no less than a weaker one: a nil slice is a row without room; a row that is written no more is data.
  S: the reference's Parse: contract.
  T: strings.Builder's copyCheck and String, as facts of the evaluator.
  GU: Valid of the program and of the reference; the segments of Check. Written by gen.py.
  U: mesh.Check and the reference's: contracts.
  GV: Corners, and the reference's Same: contracts and segments. Written by gen.py.
-/
import Derived.Test.YtlhkgeoahblffaaDoorZA8
import Derived.Test.YtlhkgeoahblffaaDoorZA6
import Derived.Laws.IdiomCopy
import Derived.Tactics
import Derived.Shelf.RegionOpenPlain
import Derived.Lib.Walk
import Derived.Lib.Builder
import Derived.Lib.UnsafeStr
import Derived.Laws.Externs
import Derived.WalkKit
set_option linter.unusedSimpArgs false
set_option linter.unusedVariables false
set_option maxRecDepth 100000
namespace Go.Proofs.YtlhkgeoahblffaaDoor
open Go.Sx

theorem kN : Known Tryd.prog (Env.of Tryd.prog (sumOf [])) := hK (l := []) trivial
theorem kR : Known Tryd.prog (Env.of Tryd.prog (sumOf [fRP])) := hK (l := [fRP]) ⟨o_rp, trivial⟩

/-! ### The first line -/

theorem index_hit {b : List UInt8} : ∀ {a : List UInt8}, (10 : UInt8) ∉ a → Lib.indexByte (a ++ 10 :: b) 10 = a.length
  | [], _ => rfl
  | x :: a, h => by
    have hx : (x == 10) = false := by rw [beq_eq_false_iff_ne]; intro c; exact h (by rw [c]; exact List.mem_cons_self)
    have ih := index_hit (b := b) (a := a) fun c => h (List.mem_cons_of_mem _ c)
    rw [List.cons_append, Lib.indexByte, hx, ih, if_neg (by simp), if_neg (by rw [beq_iff_eq]; omega), List.length_cons]
    omega
theorem index_miss : ∀ {a : List UInt8}, (10 : UInt8) ∉ a → Lib.indexByte a 10 = -1
  | [], _ => rfl
  | x :: a, h => by
    have hx : (x == 10) = false := by rw [beq_eq_false_iff_ne]; intro c; exact h (by rw [c]; exact List.mem_cons_self)
    have ih := index_miss (a := a) fun c => h (List.mem_cons_of_mem _ c)
    rw [Lib.indexByte, hx, ih, if_neg (by simp), if_pos (by rfl)]
theorem cut_hit {a b : List UInt8} (h : (10 : UInt8) ∉ a) : lineOf (a ++ 10 :: b) = a ∧ restOf (a ++ 10 :: b) = b := by
  have e := (Lib.index_one (a ++ 10 :: b) 10).trans (index_hit (b := b) h)
  unfold lineOf restOf Lib.cut
  rw [e, if_pos (by omega)]
  simp
theorem cut_miss {s : List UInt8} (h : (10 : UInt8) ∉ s) : lineOf s = s ∧ restOf s = [] := by
  have e := (Lib.index_one s 10).trans (index_miss h)
  unfold lineOf restOf Lib.cut
  rw [e, if_neg (by omega)]
  exact ⟨rfl, rfl⟩

/-- The lines of a text. -/
def lns (s : List UInt8) : List (List UInt8) := if h : s = [] then [] else lineOf s :: lns (restOf s)
termination_by s.length
decreasing_by exact (cut_len s h).1
theorem lns_nil : lns [] = [] := by rw [lns]; rfl
theorem lns_cons {s : List UInt8} (h : s ≠ []) : lns s = lineOf s :: lns (restOf s) := by rw [lns]; simp [h]

theorem split_at {s : List UInt8} {f i : Nat} (hf : f ≤ i) (hi : i ≤ s.length) : s.drop f = (s.take i).drop f ++ s.drop i := by
  have h := List.take_append_drop i s
  calc s.drop f = (s.take i ++ s.drop i).drop f := by rw [h]
    _ = (s.take i).drop f ++ s.drop i := by rw [List.drop_append_of_le_length (by rw [List.length_take]; omega)]
theorem take_succ_drop {s : List UInt8} {f i : Nat} (hf : f ≤ i) (hi : i < s.length) : (s.take (i + 1)).drop f = (s.take i).drop f ++ [s[i]] := by
  rw [List.take_succ_eq_append_getElem hi, List.drop_append_of_le_length (by rw [List.length_take]; omega)]
theorem bt_at {s : List UInt8} {i : Nat} (hi : i < s.length) : bt s (i : Int) = (s[i].toNat : Int) := by
  obtain ⟨b, h1, h2⟩ := bt_get (s := s) (i := (i : Int)) (by omega) (by omega)
  rw [Int.toNat_natCast, List.getElem?_eq_getElem hi] at h1
  injection h1 with h1
  rw [h2, h1]
theorem is10 {b : UInt8} : (b.toNat : Int) = 10 ↔ b = 10 := ⟨fun h => UInt8.toNat_inj.1 (by have : (10 : UInt8).toNat = 10 := rfl; omega), fun h => by subst h; rfl⟩
theorem wr1 {i : Nat} (h : i ≤ 200000) : IntKind.i64.wrap ((i : Int) + 1) = ((i + 1 : Nat) : Int) := by rw [i64_def]; split <;> omega
theorem lns_hit {s : List UInt8} {f i : Nat} (hf : f ≤ i) (hi : i < s.length) (hn : (10 : UInt8) ∉ (s.take i).drop f) (hb : s[i] = 10) : lns (s.drop f) = (s.take i).drop f :: lns (s.drop (i + 1)) := by
  have e : s.drop f = (s.take i).drop f ++ 10 :: s.drop (i + 1) := by
    rw [split_at hf (Nat.le_of_lt hi), List.drop_eq_getElem_cons hi, hb]
  obtain ⟨h1, h2⟩ := cut_hit (b := s.drop (i + 1)) hn
  rw [e, lns_cons (by simp), h1, h2]
theorem lns_end {s : List UInt8} {f : Nat} (hf : f < s.length) (hn : (10 : UInt8) ∉ s.drop f) : lns (s.drop f) = [s.drop f] := by
  obtain ⟨h1, h2⟩ := cut_miss hn
  rw [lns_cons (by intro c; have := congrArg List.length c; rw [List.length_drop] at this; simp at this; omega), h1, h2, lns_nil]

theorem li_row (s : List UInt8) (hs : s.length ≤ 100000) : ∀ (n i f : Nat) (l : List (List UInt8)), i + n = s.length → f ≤ i → (10 : UInt8) ∉ (s.take i).drop f → l.length ≤ i → RunsR Tryd.prog (fnOf Tryd.prog 38) (.list .str (l ++ lns (s.drop f))) (loopOf Tryd.prog 38 0) (slotsS 36 [(0, .str s), (3, .row 0), (4, I64 (f : Int)), (5, I64 (i : Int))]) [some (.rows .str l)]
  | 0, i, f, l, hi, hf, hn, hl => by
    have hi : i = s.length := hi
    subst hi
    rw [List.take_length] at hn
    refine runsR_seg kN (n := 1000) (hint := .str) (keep := keepS 36 [0, 3, 4, 5]) (p := li2_p) rfl ?_
    erw [li2 s (f : Int) (s.length : Int) l]
    unfold li2_t
    refine ⟨fun h => absurd (of_decide_eq_true h) (by omega), fun _ => ⟨fun h => ?_, fun h => ?_⟩⟩
    · have h := of_decide_eq_true h
      refine ⟨by simp; omega, decide_eq_true (by simp; omega), ?_⟩
      rw [lns_end (by omega) hn]; rfl
    · have h := of_decide_eq_false h
      have : s.drop f = [] := List.drop_eq_nil_of_le (by omega)
      rw [this, lns_nil, List.append_nil]; rfl
  | n + 1, i, f, l, hi, hf, hn, hl => by
    have hil : i < s.length := by omega
    refine runsR_seg kN (n := 1000) (hint := .str) (keep := keepS 36 [0, 3, 4, 5]) (p := li2_p) rfl ?_
    erw [li2 s (f : Int) (i : Int) l]
    unfold li2_t
    rw [wr1 (by omega), bt_at hil]
    refine ⟨fun _ => ⟨by simp; omega, fun h => ?_, fun h => ?_⟩, fun h => absurd (of_decide_eq_false h) (by simp; omega)⟩
    · have hb := is10.1 (beq_iff_eq.1 h)
      refine ⟨by simp; omega, decide_eq_true (by simp; omega), slotsS_len _ _, ?_⟩
      have e : l ++ lns (s.drop f) = (l ++ [(s.take i).drop f]) ++ lns (s.drop (i + 1)) := by rw [lns_hit hf hil hn hb]; simp
      rw [e]
      exact li_row s hs n (i + 1) (i + 1) (l ++ [(s.take i).drop f]) (by omega) (Nat.le_refl _) (by rw [List.drop_eq_nil_of_le (by rw [List.length_take]; omega)]; exact List.not_mem_nil) (by simp; omega)
    · have hb : s[i] ≠ 10 := fun c => by rw [is10.2 c] at h; cases h
      refine ⟨slotsS_len _ _, li_row s hs n (i + 1) f l (by omega) (by omega) ?_ (by omega)⟩
      rw [take_succ_drop hf hil, List.mem_append, List.mem_singleton]
      exact fun c => c.elim hn fun c => hb c.symm
theorem li_nil (s : List UInt8) (hs : s.length ≤ 100000) : ∀ (n i f : Nat), i + n = s.length → f ≤ i → (10 : UInt8) ∉ (s.take i).drop f → RunsR Tryd.prog (fnOf Tryd.prog 38) (.list .str (lns (s.drop f))) (loopOf Tryd.prog 38 0) (slotsS 36 [(0, .str s), (3, .nilS), (4, I64 (f : Int)), (5, I64 (i : Int))]) []
  | 0, i, f, hi, hf, hn => by
    have hi : i = s.length := hi
    subst hi
    rw [List.take_length] at hn
    refine runsR_seg kN (n := 1000) (hint := .str) (keep := keepS 36 [0, 3, 4, 5]) (p := li1_p) rfl ?_
    erw [li1 s (f : Int) (s.length : Int)]
    unfold li1_t
    refine ⟨fun h => absurd (of_decide_eq_true h) (by omega), fun _ => ⟨fun h => ?_, fun h => ?_⟩⟩
    · have h := of_decide_eq_true h
      refine ⟨by simp; omega, decide_eq_true (by simp), ?_⟩
      rw [lns_end (by omega) hn]; rfl
    · have h := of_decide_eq_false h
      have : s.drop f = [] := List.drop_eq_nil_of_le (by omega)
      rw [this, lns_nil]; rfl
  | n + 1, i, f, hi, hf, hn => by
    have hil : i < s.length := by omega
    refine runsR_seg kN (n := 1000) (hint := .str) (keep := keepS 36 [0, 3, 4, 5]) (p := li1_p) rfl ?_
    erw [li1 s (f : Int) (i : Int)]
    unfold li1_t
    rw [wr1 (by omega), bt_at hil]
    refine ⟨fun _ => ⟨by simp; omega, fun h => ?_, fun h => ?_⟩, fun h => absurd (of_decide_eq_false h) (by simp; omega)⟩
    · have hb := is10.1 (beq_iff_eq.1 h)
      refine ⟨by simp; omega, decide_eq_true (by simp), slotsS_len _ _, ?_⟩
      rw [lns_hit hf hil hn hb]
      exact li_row s hs n (i + 1) (i + 1) [(s.take i).drop f] (by omega) (Nat.le_refl _) (by rw [List.drop_eq_nil_of_le (by rw [List.length_take]; omega)]; exact List.not_mem_nil) (by simp)
    · have hb : s[i] ≠ 10 := fun c => by rw [is10.2 c] at h; cases h
      refine ⟨slotsS_len _ _, li_nil s hs n (i + 1) f (by omega) (by omega) ?_⟩
      rw [take_succ_drop hf hil, List.mem_append, List.mem_singleton]
      exact fun c => c.elim hn fun c => hb c.symm
theorem s_lines (s : List UInt8) (hs : small s = true) : SCall Tryd.prog 38 [.str s] (.list .str (lns s)) := by
  have hl : s.length ≤ 100000 := by have := small_iff.1 hs; omega
  refine scallR_loops rfl rfl (by kernel_rfl) (runsR_seg kN (n := 1000) (hint := .str) (keep := keepS 36 [0, 3, 4, 5]) (p := li0_p) (boxes := []) rfl ?_)
  have e := li0 s
  unfold startS codeS at e
  erw [e]
  exact ⟨slotsS_len _ _, li_nil s hl s.length 0 0 (by omega) (Nat.le_refl _) (by simp)⟩

/-! ### words -/

/-- What is still to come. -/
def wTo (s : List UInt8) (f i : Nat) : List (List UInt8) := if i ≤ s.length then wsplit ((s.take i).drop f) (s.drop i) else []
theorem piece_nil {s : List UInt8} {f i : Nat} (hf : f ≤ i) (hi : i ≤ s.length) : (s.take i).drop f = [] ↔ ¬ f < i := by
  refine ⟨fun h c => ?_, fun h => List.drop_eq_nil_of_le (by rw [List.length_take]; omega)⟩
  have := congrArg List.length h
  rw [List.length_drop, List.length_take] at this
  simp at this; omega
theorem wTo_new {s : List UInt8} {i : Nat} : wTo s (i + 1) (i + 1) = if i + 1 ≤ s.length then wsplit [] (s.drop (i + 1)) else [] := by
  unfold wTo
  split
  · rw [List.drop_eq_nil_of_le (by rw [List.length_take]; omega)]
  · rfl
theorem wTo_cut {s : List UInt8} {f i : Nat} (hf : f ≤ i) (hi : i ≤ s.length) (hb : ∀ h : i < s.length, blank s[i] = true) : wTo s f i = if f < i then (s.take i).drop f :: wTo s (i + 1) (i + 1) else wTo s (i + 1) (i + 1) := by
  rw [wTo_new]
  unfold wTo
  rw [if_pos hi]
  have hp := piece_nil hf hi
  by_cases hlt : i < s.length
  · rw [List.drop_eq_getElem_cons hlt, wsplit, if_pos (hb hlt), if_pos (show i + 1 ≤ s.length by omega)]
    by_cases h : f < i
    · rw [if_pos h, if_neg (fun c => hp.1 c h)]
    · rw [if_neg h, if_pos (hp.2 h)]
  · have e : s.drop i = [] := List.drop_eq_nil_of_le (by omega)
    rw [e, wsplit, if_neg (show ¬ i + 1 ≤ s.length by omega)]
    by_cases h : f < i
    · rw [if_pos h, if_neg (fun c => hp.1 c h)]
    · rw [if_neg h, if_pos (hp.2 h)]
theorem wTo_on {s : List UInt8} {f i : Nat} (hf : f ≤ i) (hi : i < s.length) (hb : blank s[i] = false) : wTo s f i = wTo s f (i + 1) := by
  unfold wTo
  rw [if_pos (Nat.le_of_lt hi), if_pos (show i + 1 ≤ s.length by omega), List.drop_eq_getElem_cons hi, wsplit, if_neg (by rw [hb]; simp), take_succ_drop hf hi]
theorem is32 {b : UInt8} : (b.toNat : Int) = 32 ↔ b = 32 := ⟨fun h => UInt8.toNat_inj.1 (by have : (32 : UInt8).toNat = 32 := rfl; omega), fun h => by subst h; rfl⟩
theorem is9 {b : UInt8} : (b.toNat : Int) = 9 ↔ b = 9 := ⟨fun h => UInt8.toNat_inj.1 (by have : (9 : UInt8).toNat = 9 := rfl; omega), fun h => by subst h; rfl⟩

/-- Where a word may end. -/
theorem cutNode {L : Stop → Prop} {s : List UInt8} {f i : Nat} {n : Nat} {A B : Stop} (hf : f ≤ i) (hi : i ≤ s.length) (hn : n * 16 ≤ 140737488355328) (hA : f < i → L A) (hB : ¬ f < i → L B) :
    (Tree.node (decide ((i : Int) > (f : Int))) (.req (decide ((0 : Int) ≤ (i : Int)) && decide ((i : Int) ≤ (s.length : Int)) && decide ((0 : Int) ≤ (f : Int)) && decide ((f : Int) ≤ (i : Int))) (.req (decide (n * 16 ≤ 140737488355328)) (.leaf A))) (.leaf B)).holds L := by
  refine ⟨fun h => ⟨?_, decide_eq_true hn, hA (by have := of_decide_eq_true h; omega)⟩, fun h => hB (by have := of_decide_eq_false h; omega)⟩
  simp only [Bool.and_eq_true, decide_eq_true_eq]
  omega

theorem wo_row (s : List UInt8) (hs : s.length ≤ 100000) : ∀ (n i f : Nat) (l : List (List UInt8)), i + n = s.length + 1 → f ≤ i → l.length ≤ i → RunsR Tryd.prog (fnOf Tryd.prog 39) (.list .str (l ++ wTo s f i)) (loopOf Tryd.prog 39 0) (slotsS 41 [(0, .str s), (3, .row 0), (4, I64 (f : Int)), (5, I64 (i : Int))]) [some (.rows .str l)]
  | 0, i, f, l, hi, hf, hl => by
    refine runsR_seg kN (n := 1000) (hint := .str) (keep := keepS 41 [0, 3, 4, 5]) (p := wo2_p) rfl ?_
    erw [wo2 s (f : Int) (i : Int) l]
    unfold wo2_t
    refine ⟨fun h => absurd (of_decide_eq_true h) (by omega), fun _ => ?_⟩
    have : wTo s f i = [] := by unfold wTo; rw [if_neg (by omega)]
    rw [this, List.append_nil]; rfl
  | n + 1, i, f, l, hi, hf, hl => by
    have hile : i ≤ s.length := by omega
    refine runsR_seg kN (n := 1000) (hint := .str) (keep := keepS 41 [0, 3, 4, 5]) (p := wo2_p) rfl ?_
    erw [wo2 s (f : Int) (i : Int) l]
    unfold wo2_t
    rw [wr1 (by omega)]
    have cutA : (∀ h : i < s.length, blank s[i] = true) → f < i → RunsR Tryd.prog (fnOf Tryd.prog 39) (.list .str (l ++ wTo s f i)) (loopOf Tryd.prog 39 0) (slotsS 41 [(0, .str s), (3, .row 0), (4, I64 ((i + 1 : Nat) : Int)), (5, I64 ((i + 1 : Nat) : Int))]) [some (.rows .str (l ++ [(s.take i).drop f]))] := fun hb h => by
      have e : l ++ wTo s f i = (l ++ [(s.take i).drop f]) ++ wTo s (i + 1) (i + 1) := by rw [wTo_cut hf hile hb, if_pos h]; simp
      rw [e]
      exact wo_row s hs n (i + 1) (i + 1) _ (by omega) (Nat.le_refl _) (by simp; omega)
    have cutB : (∀ h : i < s.length, blank s[i] = true) → ¬ f < i → RunsR Tryd.prog (fnOf Tryd.prog 39) (.list .str (l ++ wTo s f i)) (loopOf Tryd.prog 39 0) (slotsS 41 [(0, .str s), (3, .row 0), (4, I64 ((i + 1 : Nat) : Int)), (5, I64 ((i + 1 : Nat) : Int))]) [some (.rows .str l)] := fun hb h => by
      have e : l ++ wTo s f i = l ++ wTo s (i + 1) (i + 1) := by rw [wTo_cut hf hile hb, if_neg h]
      rw [e]
      exact wo_row s hs n (i + 1) (i + 1) _ (by omega) (Nat.le_refl _) (by omega)
    refine ⟨fun _ => ⟨fun h => ?_, fun h => ?_⟩, fun h => absurd (of_decide_eq_false h) (by simp; omega)⟩
    · have h := beq_iff_eq.1 h
      have hb : ∀ h : i < s.length, blank s[i] = true := fun c => absurd c (by omega)
      exact cutNode hf hile (by simp; omega) (fun h => ⟨slotsS_len _ _, cutA hb h⟩) fun h => ⟨slotsS_len _ _, cutB hb h⟩
    · have h := beq_eq_false_iff_ne.1 h
      have hil : i < s.length := by omega
      rw [bt_at hil]
      refine ⟨by simp; omega, fun h1 => ?_, fun h1 => ⟨by simp; omega, fun h2 => ?_, fun h2 => ⟨slotsS_len _ _, ?_⟩⟩⟩
      · have hb : ∀ h : i < s.length, blank s[i] = true := fun _ => by unfold blank; rw [is32.1 (beq_iff_eq.1 h1)]; rfl
        exact cutNode hf hile (by simp; omega) (fun h => ⟨slotsS_len _ _, cutA hb h⟩) fun h => ⟨slotsS_len _ _, cutB hb h⟩
      · have hb : ∀ h : i < s.length, blank s[i] = true := fun _ => by unfold blank; rw [is9.1 (beq_iff_eq.1 h2)]; rfl
        exact cutNode hf hile (by simp; omega) (fun h => ⟨slotsS_len _ _, cutA hb h⟩) fun h => ⟨slotsS_len _ _, cutB hb h⟩
      · have hb : blank s[i] = false := by
          unfold blank
          rw [Bool.or_eq_false_iff, beq_eq_false_iff_ne, beq_eq_false_iff_ne]
          exact ⟨fun c => beq_eq_false_iff_ne.1 h1 (is32.2 c), fun c => beq_eq_false_iff_ne.1 h2 (is9.2 c)⟩
        have e : l ++ wTo s f i = l ++ wTo s f (i + 1) := by rw [wTo_on hf hil hb]
        rw [e]
        exact wo_row s hs n (i + 1) f l (by omega) (by omega) (by omega)

theorem wo_nil (s : List UInt8) (hs : s.length ≤ 100000) : ∀ (n i f : Nat), i + n = s.length + 1 → f ≤ i → RunsR Tryd.prog (fnOf Tryd.prog 39) (.list .str (wTo s f i)) (loopOf Tryd.prog 39 0) (slotsS 41 [(0, .str s), (3, .nilS), (4, I64 (f : Int)), (5, I64 (i : Int))]) []
  | 0, i, f, hi, hf => by
    refine runsR_seg kN (n := 1000) (hint := .str) (keep := keepS 41 [0, 3, 4, 5]) (p := wo1_p) rfl ?_
    erw [wo1 s (f : Int) (i : Int)]
    unfold wo1_t
    refine ⟨fun h => absurd (of_decide_eq_true h) (by omega), fun _ => ?_⟩
    have : wTo s f i = [] := by unfold wTo; rw [if_neg (by omega)]
    rw [this]; rfl
  | n + 1, i, f, hi, hf => by
    have hile : i ≤ s.length := by omega
    refine runsR_seg kN (n := 1000) (hint := .str) (keep := keepS 41 [0, 3, 4, 5]) (p := wo1_p) rfl ?_
    erw [wo1 s (f : Int) (i : Int)]
    unfold wo1_t
    rw [wr1 (by omega)]
    have cutA : (∀ h : i < s.length, blank s[i] = true) → f < i → RunsR Tryd.prog (fnOf Tryd.prog 39) (.list .str (wTo s f i)) (loopOf Tryd.prog 39 0) (slotsS 41 [(0, .str s), (3, .row 0), (4, I64 ((i + 1 : Nat) : Int)), (5, I64 ((i + 1 : Nat) : Int))]) [some (.rows .str [(s.take i).drop f])] := fun hb h => by
      have e : wTo s f i = [(s.take i).drop f] ++ wTo s (i + 1) (i + 1) := by rw [wTo_cut hf hile hb, if_pos h]; simp
      rw [e]
      exact wo_row s hs n (i + 1) (i + 1) _ (by omega) (Nat.le_refl _) (by simp)
    have cutB : (∀ h : i < s.length, blank s[i] = true) → ¬ f < i → RunsR Tryd.prog (fnOf Tryd.prog 39) (.list .str (wTo s f i)) (loopOf Tryd.prog 39 0) (slotsS 41 [(0, .str s), (3, .nilS), (4, I64 ((i + 1 : Nat) : Int)), (5, I64 ((i + 1 : Nat) : Int))]) [] := fun hb h => by
      have e : wTo s f i = wTo s (i + 1) (i + 1) := by rw [wTo_cut hf hile hb, if_neg h]
      rw [e]
      exact wo_nil s hs n (i + 1) (i + 1) (by omega) (Nat.le_refl _)
    refine ⟨fun _ => ⟨fun h => ?_, fun h => ?_⟩, fun h => absurd (of_decide_eq_false h) (by simp; omega)⟩
    · have h := beq_iff_eq.1 h
      have hb : ∀ h : i < s.length, blank s[i] = true := fun c => absurd c (by omega)
      exact cutNode hf hile (by simp) (fun h => ⟨slotsS_len _ _, cutA hb h⟩) fun h => ⟨slotsS_len _ _, cutB hb h⟩
    · have h := beq_eq_false_iff_ne.1 h
      have hil : i < s.length := by omega
      rw [bt_at hil]
      refine ⟨by simp; omega, fun h1 => ?_, fun h1 => ⟨by simp; omega, fun h2 => ?_, fun h2 => ⟨slotsS_len _ _, ?_⟩⟩⟩
      · have hb : ∀ h : i < s.length, blank s[i] = true := fun _ => by unfold blank; rw [is32.1 (beq_iff_eq.1 h1)]; rfl
        exact cutNode hf hile (by simp) (fun h => ⟨slotsS_len _ _, cutA hb h⟩) fun h => ⟨slotsS_len _ _, cutB hb h⟩
      · have hb : ∀ h : i < s.length, blank s[i] = true := fun _ => by unfold blank; rw [is9.1 (beq_iff_eq.1 h2)]; rfl
        exact cutNode hf hile (by simp) (fun h => ⟨slotsS_len _ _, cutA hb h⟩) fun h => ⟨slotsS_len _ _, cutB hb h⟩
      · have hb : blank s[i] = false := by
          unfold blank
          rw [Bool.or_eq_false_iff, beq_eq_false_iff_ne, beq_eq_false_iff_ne]
          exact ⟨fun c => beq_eq_false_iff_ne.1 h1 (is32.2 c), fun c => beq_eq_false_iff_ne.1 h2 (is9.2 c)⟩
        rw [wTo_on hf hil hb]
        exact wo_nil s hs n (i + 1) f (by omega) (by omega)
theorem s_words (s : List UInt8) (hs : small s = true) : SCall Tryd.prog 39 [.str s] (.list .str (flds s)) := by
  have hl : s.length ≤ 100000 := by have := small_iff.1 hs; omega
  refine scallR_loops rfl rfl (by kernel_rfl) (runsR_seg kN (n := 1000) (hint := .str) (keep := keepS 41 [0, 3, 4, 5]) (p := wo0_p) (boxes := []) rfl ?_)
  have e := wo0 s
  unfold startS codeS at e
  erw [e]
  refine ⟨slotsS_len _ _, ?_⟩
  have h := wo_nil s hl (s.length + 1) 0 0 (by omega) (Nat.le_refl _)
  have e : wTo s 0 0 = flds s := by rw [flds_eq]; unfold wTo; rw [if_pos (Nat.zero_le _)]; simp
  rw [e] at h
  exact h
def fLines : Fact := factT 38 fun s => .leaf (.list .str (lns s))
def fWords : Fact := factT 39 fun s => .leaf (.list .str (flds s))
theorem o_lines : fLines.ok Tryd.prog := factT_ok s_lines
theorem o_words : fWords.ok Tryd.prog := factT_ok s_words
end Go.Proofs.YtlhkgeoahblffaaDoor
set_option linter.unusedSimpArgs false
set_option linter.unusedVariables false
set_option maxRecDepth 100000
namespace Go.Proofs.YtlhkgeoahblffaaDoor
open Go.Sx

def cornT (v : List (List UInt8)) : SV := .tuple [if cErr v = 0 then cVal v else .agg [I64 0, I64 0, I64 0], I64 (cErr v)]
theorem cornT_data (v : List (List UInt8)) : (cornT v).data = true := by
  unfold cornT
  split <;> rfl
def cSt (v : List (List UInt8)) (o : Bool) (j : Int) : List SV := slotsS 61 [(0, .list .str v), (2, .ptr 0 0), (4, .ptr 1 0), (5, .bool o), (6, I64 j)]
abbrev RC (r : SV) (sl : List SV) (x y z : Int) : Prop := RunsR Tryd.prog (fnOf Tryd.prog 58) r (loopOf Tryd.prog 58 0) sl [some (.cells [I64 0, I64 0, I64 0]), some (.cells [I64 x, I64 y, I64 z])]

theorem cr_fin (v : List (List UInt8)) (o : Bool) (x y z : Int) {r : SV} (hd : r.data = true) (hr : r = if o = true then .tuple [.agg [I64 0, I64 0, I64 0], I64 8] else .tuple [.agg [I64 x, I64 y, I64 z], I64 0]) : RC r (cSt v o 3) x y z := by
  refine runsR_seg kR (n := 1000) (hint := .unit) (keep := keepS 61 [0, 2, 4, 5, 6]) (p := cr4_p) hd ?_
  erw [cr4 v o x y z]
  unfold cr4_t
  subst hr
  cases o with
  | true => exact ⟨fun _ => rfl, fun h => nomatch h⟩
  | false => exact ⟨fun h => (nomatch h), fun _ => ⟨rfl, rfl, rfl, rfl⟩⟩

theorem turnR {L : Stop → Prop} {r : Int × Int} {o : Bool} {A : Stop} {B : Bool → Stop} (h5 : r.2 = 5 → L A) (hn : ∀ o', r.2 ≠ 5 → o' = (o || badN r) → L (B o')) :
    (Tree.node (r.2 == 5) (.leaf A) (.node o (.req true (.leaf (B true))) (.node (r.2 != 0) (.req true (.leaf (B true))) (.node (decide (r.1 < -65536)) (.req true (.leaf (B true))) (.req true (.leaf (B (decide (r.1 > 65536))))))))).holds L := by
  refine ⟨fun h => h5 (beq_iff_eq.1 h), fun h => ?_⟩
  have h := beq_eq_false_iff_ne.1 h
  refine ⟨fun h1 => ⟨rfl, hn _ h (by rw [h1, Bool.true_or])⟩, fun h1 => ⟨fun h2 => ⟨rfl, hn _ h (by unfold badN; rw [h1, h2]; rfl)⟩, fun h2 => ⟨fun h3 => ⟨rfl, hn _ h (by unfold badN; rw [h1, h2, h3]; rfl)⟩, fun h3 => ⟨rfl, hn _ h (by unfold badN; rw [h1, h2, h3]; rfl)⟩⟩⟩⟩

theorem cr_loop (v : List (List UInt8)) (hv : ∀ i, small (nthW v i) = true) (h4 : v.length = 4) (h0 : nthW v 0 = vertexB) : RC (cornT v) (cSt v false 0) 0 0 0 := by
  have l1 : ¬ ¬ v.length = 4 := not_not_intro h4
  have e5 : ((parseV (nthW v 1)).2 = 5 ∨ (parseV (nthW v 2)).2 = 5 ∨ (parseV (nthW v 3)).2 = 5) → cornT v = .tuple [.agg [I64 0, I64 0, I64 0], I64 5] := fun h => by
    have : cErr v = 5 := by
      unfold cErr
      rw [if_neg l1, if_neg (not_not_intro h0), if_pos h]
    unfold cornT
    rw [this, if_neg (by decide)]
  have hd := cornT_data v
  refine runsR_seg kR (n := 1000) (hint := .unit) (keep := keepS 61 [0, 2, 4, 5, 6]) (p := cr1_p) hd ?_
  erw [cr1 v false]
  unfold cr1_t
  refine ⟨decide_eq_true (by omega), hv 1, turnR (B := fun o => Stop.at (loopOf Tryd.prog 58 0) 61 (cSt v o 1) [some (Box.cells [I64 0, I64 0, I64 0]), some (Box.cells [I64 (parseV (nthW v 1)).1, I64 0, I64 0])]) (fun h => ?_) fun o1 h1 ho1 => ⟨slotsS_len _ _, ?_⟩⟩
  · show SV.tuple _ = _
    rw [e5 (.inl h), h]
  refine runsR_seg kR (n := 1000) (hint := .unit) (keep := keepS 61 [0, 2, 4, 5, 6]) (p := cr2_p) hd ?_
  erw [cr2 v o1 (parseV (nthW v 1)).1]
  unfold cr2_t
  refine ⟨decide_eq_true (by omega), hv 2, turnR (B := fun o => Stop.at (loopOf Tryd.prog 58 0) 61 (cSt v o 2) [some (Box.cells [I64 0, I64 0, I64 0]), some (Box.cells [I64 (parseV (nthW v 1)).1, I64 (parseV (nthW v 2)).1, I64 0])]) (fun h => ?_) fun o2 h2 ho2 => ⟨slotsS_len _ _, ?_⟩⟩
  · show SV.tuple _ = _
    rw [e5 (.inr (.inl h)), h]
  refine runsR_seg kR (n := 1000) (hint := .unit) (keep := keepS 61 [0, 2, 4, 5, 6]) (p := cr3_p) hd ?_
  erw [cr3 v o2 (parseV (nthW v 1)).1 (parseV (nthW v 2)).1]
  unfold cr3_t
  refine ⟨decide_eq_true (by omega), hv 3, turnR (B := fun o => Stop.at (loopOf Tryd.prog 58 0) 61 (cSt v o 3) [some (Box.cells [I64 0, I64 0, I64 0]), some (Box.cells [I64 (parseV (nthW v 1)).1, I64 (parseV (nthW v 2)).1, I64 (parseV (nthW v 3)).1])]) (fun h => ?_) fun o3 h3 ho3 => ⟨slotsS_len _ _, ?_⟩⟩
  · show SV.tuple _ = _
    rw [e5 (.inr (.inr h)), h]
  have ho : o3 = (badN (parseV (nthW v 1)) || (badN (parseV (nthW v 2)) || badN (parseV (nthW v 3)))) := by
    rw [ho3, ho2, ho1, Bool.false_or, Bool.or_assoc]
  have ec : cErr v = if o3 = true then 8 else 0 := by
    unfold cErr
    rw [if_neg l1, if_neg (not_not_intro h0), if_neg (fun c => c.elim h1 fun c => c.elim h2 h3), ho]
  refine cr_fin v o3 _ _ _ hd ?_
  unfold cornT
  rw [ec]
  cases o3 <;> rfl

theorem s_corner (v : List (List UInt8)) (hv : ∀ i, small (nthW v i) = true) : SCall Tryd.prog 58 [.list .str v] (cornT v) := by
  have hd := cornT_data v
  refine scallR_loops rfl hd (by kernel_rfl) (runsR_seg kR (n := 1000) (hint := .unit) (keep := keepS 61 [0, 2, 4, 5, 6]) (p := cr0_p) (boxes := []) hd ?_)
  have e := cr0 v
  unfold startS codeS at e
  erw [e]
  unfold cr0_t
  have five : cErr v = 5 → Stop.done (SV.tuple [.agg [I64 0, I64 0, I64 0], I64 5]) = Stop.done (cornT v) := fun h => by
    unfold cornT; rw [h, if_neg (by decide)]
  refine ⟨fun h => ?_, fun h => ?_⟩
  · have h : ¬ v.length = 4 := by simp at h; omega
    have : cErr v = 5 := by unfold cErr; rw [if_pos h]
    unfold cornT; rw [this, if_neg (by decide)]; rfl
  · have h : v.length = 4 := by simp at h; omega
    refine ⟨decide_eq_true (by omega), fun h3 => ?_, fun h3 => ⟨slotsS_len _ _, ?_⟩⟩
    · have h3 : nthW v 0 ≠ [118, 101, 114, 116, 101, 120] := by simpa using h3
      have h3 : nthW v 0 ≠ vertexB := h3
      have : cErr v = 5 := by unfold cErr; rw [if_neg (not_not_intro h), if_pos h3]
      unfold cornT; rw [this, if_neg (by decide)]; rfl
    · have h3 : nthW v 0 = [118, 101, 114, 116, 101, 120] := by simpa using h3
      have h3 : nthW v 0 = vertexB := h3
      exact cr_loop v hv h h3
def fCorner : Fact := ⟨58, fun args => match args with
  | [x] => match x with
    | .list t l => match t, l with
      | .str, l => some (.req (l.all fun s => small s) (.node (decide (cErr l = 0)) (.leaf (.tuple [cVal l, I64 0])) (.leaf (.tuple [.agg [I64 0, I64 0, I64 0], I64 (cErr l)]))))
      | _, _ => none
    | _ => none
  | _ => none⟩
theorem o_corner : fCorner.ok Tryd.prog := fun args t ht => by
  simp only [fCorner] at ht
  split at ht
  · split at ht
    · split at ht
      · injection ht with ht; subst ht
        intro hs
        rw [List.all_eq_true] at hs
        have h := s_corner _ (nthW_small hs)
        unfold cornT at h
        refine ⟨fun h1 => ?_, fun h1 => ?_⟩
        · have h1 := of_decide_eq_true h1
          rw [if_pos h1, h1] at h; exact h
        · rw [if_neg (of_decide_eq_false h1)] at h; exact h
      · cases ht
    · cases ht
  · cases ht
end Go.Proofs.YtlhkgeoahblffaaDoor
set_option linter.unusedSimpArgs false
set_option linter.unusedVariables false
set_option maxRecDepth 100000
namespace Go.Proofs.YtlhkgeoahblffaaDoor
open Go.Sx
def fw (l : List (List UInt8)) (i : Int) : List (List UInt8) := flds (nthW l i.toNat)
def triE (us : List (Int × Int × Int)) : Int × Int × Int := (IntKind.i64.wrap ((us.length : Int) - 3), IntKind.i64.wrap ((us.length : Int) - 2), IntKind.i64.wrap ((us.length : Int) - 1))
def rp0_p : Plan := .fork (.all) (.all)
noncomputable def rp0_t (s : List UInt8) : Tree Stop :=
   .node (decide ((↑s.length : Int) > 65536))
 (.leaf (Stop.done (SV.tuple [SV.agg [SV.list v3 [], SV.list v3 []], I64 0, I64 2])))
 (.req (small s) (.leaf (Stop.at (loopOf Tryd.prog 18 0) 55 (slotsS 55 [(2, SV.ptr 0 0), (5, SV.ptr 1 0), (6, I64 0), (7, SV.list Ty.str (lns s)), (8, I64 0)]) [some (Box.cells [SV.nilS, SV.nilS]), some (Box.cells [SV.nilS, SV.nilS])])))
theorem rp0 (s : List UInt8) : segR (Env.of Tryd.prog (sumOf [fLines, fWords, fCorner])) 1000 (fnOf Tryd.prog 18) v3 (keepS 55 [2,5,6,7,8]) (codeS Tryd.prog 18) rp0_p (startS Tryd.prog 18 [.str s]) [] = rp0_t s := by kernel_rfl
def rq0_p : Plan := .fork (.fork (.all) (.lit (.lit (.lit (.lit (.fork (.lit (.all)) (.lit (.lit (.lit (.lit (.lit (.fork (.lit (.all)) (.lit (.lit (.lit (.lit (.lit (.lit (.lit (.lit (.lit (.lit (.lit (.lit (.lit (.lit (.lit (.lit (.lit (.lit (.lit (.all)))))))))))))))))))))))))))))))) (.lit (.all))
noncomputable def rq0_t (l : List (List UInt8)) (i : Int) (us ts : List (Int × Int × Int)) : Tree Stop :=
   .node (decide (i < (l.length : Int)))
 (.req (decide (0 ≤ i) && decide (i < (l.length : Int))) (.req (small (nthW l i.toNat)) (.node (((fw l i).length : Int) == 0)
    (.leaf (Stop.at (loopOf Tryd.prog 18 0) 55 (slotsS 55 [(2, SV.ptr 0 0), (5, SV.ptr 1 0), (6, I64 0), (7, SV.list Ty.str l), (8, I64 (IntKind.i64.wrap (i + 1)))]) [some (Box.cells [SV.nilS, SV.nilS]), some (Box.cells [SV.row 2, SV.row 3]), some (Box.rows v3 us), some (Box.rows v3 ts)]))
    (.node (((fw l i).length : Int) != 1)
     (.leaf (Stop.done (SV.tuple [SV.agg [SV.list v3 [], SV.list v3 []], I64 (IntKind.i64.wrap (i + 1)), I64 5])))
     (.req (decide (0 < ((fw l i).length : Int))) (.node (nthW (fw l i) 0 == [115, 111, 108, 105, 100])
       (.leaf (Stop.at (loopOf Tryd.prog 18 0) 55 (slotsS 55 [(2, SV.ptr 0 0), (5, SV.ptr 1 0), (6, I64 1), (7, SV.list Ty.str l), (8, I64 (IntKind.i64.wrap (i + 1)))]) [some (Box.cells [SV.nilS, SV.nilS]), some (Box.cells [SV.row 2, SV.row 3]), some (Box.rows v3 us), some (Box.rows v3 ts)]))
       (.leaf (Stop.done (SV.tuple [SV.agg [SV.list v3 [], SV.list v3 []], I64 (IntKind.i64.wrap (i + 1)), I64 5])))))))))
 (.leaf (Stop.done (SV.tuple [SV.agg [SV.list v3 [], SV.list v3 []], I64 (l.length : Int), I64 6])))
theorem rq0 (l : List (List UInt8)) (i : Int) (us ts : List (Int × Int × Int)) : segR (Env.of Tryd.prog (sumOf [fLines, fWords, fCorner])) 1000 (fnOf Tryd.prog 18) v3 (keepS 55 [2,5,6,7,8]) (loopOf Tryd.prog 18 0) rq0_p (slotsS 55 [(2, .ptr 0 0), (5, .ptr 1 0), (6, I64 0), (7, .list .str l), (8, I64 i)]) [some (.cells [.nilS, .nilS]), some (.cells [.row 2, .row 3]), some (.rows v3 us), some (.rows v3 ts)] = rq0_t l i us ts := by kernel_rfl
def rq1_p : Plan := .fork (.fork (.all) (.lit (.lit (.lit (.lit (.fork (.lit (.all)) (.lit (.lit (.lit (.lit (.lit (.lit (.lit (.lit (.lit (.lit (.lit (.fork (.lit (.all)) (.lit (.lit (.lit (.lit (.lit (.fork (.lit (.all)) (.lit (.lit (.lit (.lit (.lit (.lit (.lit (.all)))))))))))))))))))))))))))))))) (.lit (.all))
noncomputable def rq1_t (l : List (List UInt8)) (i : Int) (us ts : List (Int × Int × Int)) : Tree Stop :=
   .node (decide (i < (l.length : Int)))
 (.req (decide (0 ≤ i) && decide (i < (l.length : Int))) (.req (small (nthW l i.toNat)) (.node (((fw l i).length : Int) == 0)
    (.leaf (Stop.at (loopOf Tryd.prog 18 0) 55 (slotsS 55 [(2, SV.ptr 0 0), (5, SV.ptr 1 0), (6, I64 1), (7, SV.list Ty.str l), (8, I64 (IntKind.i64.wrap (i + 1)))]) [some (Box.cells [SV.nilS, SV.nilS]), some (Box.cells [SV.row 2, SV.row 3]), some (Box.rows v3 us), some (Box.rows v3 ts)]))
    (.node (((fw l i).length : Int) != 1)
     (.leaf (Stop.done (SV.tuple [SV.agg [SV.list v3 [], SV.list v3 []], I64 (IntKind.i64.wrap (i + 1)), I64 5])))
     (.req (decide (0 < ((fw l i).length : Int))) (.node (nthW (fw l i) 0 == [102, 97, 99, 101, 116])
       (.leaf (Stop.at (loopOf Tryd.prog 18 0) 55 (slotsS 55 [(2, SV.ptr 0 0), (5, SV.ptr 1 0), (6, I64 2), (7, SV.list Ty.str l), (8, I64 (IntKind.i64.wrap (i + 1)))]) [some (Box.cells [SV.nilS, SV.nilS]), some (Box.cells [SV.row 2, SV.row 3]), some (Box.rows v3 us), some (Box.rows v3 ts)]))
       (.req (decide (0 < ((fw l i).length : Int))) (.node (nthW (fw l i) 0 == [101, 110, 100, 115, 111, 108, 105, 100])
         (.leaf (Stop.at (loopOf Tryd.prog 18 0) 55 (slotsS 55 [(2, SV.ptr 0 0), (5, SV.ptr 1 0), (6, I64 6), (7, SV.list Ty.str l), (8, I64 (IntKind.i64.wrap (i + 1)))]) [some (Box.cells [SV.nilS, SV.nilS]), some (Box.cells [SV.row 2, SV.row 3]), some (Box.rows v3 us), some (Box.rows v3 ts)]))
         (.leaf (Stop.done (SV.tuple [SV.agg [SV.list v3 [], SV.list v3 []], I64 (IntKind.i64.wrap (i + 1)), I64 5])))))))))))
 (.leaf (Stop.done (SV.tuple [SV.agg [SV.list v3 [], SV.list v3 []], I64 (l.length : Int), I64 6])))
theorem rq1 (l : List (List UInt8)) (i : Int) (us ts : List (Int × Int × Int)) : segR (Env.of Tryd.prog (sumOf [fLines, fWords, fCorner])) 1000 (fnOf Tryd.prog 18) v3 (keepS 55 [2,5,6,7,8]) (loopOf Tryd.prog 18 0) rq1_p (slotsS 55 [(2, .ptr 0 0), (5, .ptr 1 0), (6, I64 1), (7, .list .str l), (8, I64 i)]) [some (.cells [.nilS, .nilS]), some (.cells [.row 2, .row 3]), some (.rows v3 us), some (.rows v3 ts)] = rq1_t l i us ts := by kernel_rfl
def rq2_p : Plan := .fork (.fork (.all) (.lit (.lit (.lit (.lit (.fork (.lit (.all)) (.fork (.all) (.all)))))))) (.lit (.all))
noncomputable def rq2_t (l : List (List UInt8)) (i : Int) (us ts : List (Int × Int × Int)) : Tree Stop :=
   .node (decide (i < (l.length : Int)))
 (.req (decide (0 ≤ i) && decide (i < (l.length : Int))) (.req (small (nthW l i.toNat)) (.node (((fw l i).length : Int) == 0)
    (.leaf (Stop.at (loopOf Tryd.prog 18 0) 55 (slotsS 55 [(2, SV.ptr 0 0), (5, SV.ptr 1 0), (6, I64 2), (7, SV.list Ty.str l), (8, I64 (IntKind.i64.wrap (i + 1)))]) [some (Box.cells [SV.nilS, SV.nilS]), some (Box.cells [SV.row 2, SV.row 3]), some (Box.rows v3 us), some (Box.rows v3 ts)]))
    (.req ((fw l i).all fun s => small s) (.node (decide (cErr (fw l i) = 0))
      (.req (decide ((us.length + [cTri (fw l i)].length) * 24 ≤ 140737488355328)) (.leaf (Stop.at (loopOf Tryd.prog 18 0) 55 (slotsS 55 [(2, SV.ptr 0 0), (5, SV.ptr 1 0), (6, I64 3), (7, SV.list Ty.str l), (8, I64 (IntKind.i64.wrap (i + 1)))]) [some (Box.cells [SV.nilS, SV.nilS]), some (Box.cells [SV.row 2, SV.row 3]), some (Box.rows v3 (us ++ [cTri (fw l i)])), some (Box.rows v3 ts)])))
      (.req (decide ((us.length + 1) * 24 ≤ 140737488355328)) (.node (cErr (fw l i) != 0)
        (.leaf (Stop.done (SV.tuple [SV.agg [SV.list v3 [], SV.list v3 []], I64 (IntKind.i64.wrap (i + 1)), I64 (cErr (fw l i))])))
        (.leaf (Stop.at (loopOf Tryd.prog 18 0) 55 (slotsS 55 [(2, SV.ptr 0 0), (5, SV.ptr 1 0), (6, I64 3), (7, SV.list Ty.str l), (8, I64 (IntKind.i64.wrap (i + 1)))]) [some (Box.cells [SV.nilS, SV.nilS]), some (Box.cells [SV.row 2, SV.row 3]), some (Box.rows v3 (us ++ [(0, 0, 0)])), some (Box.rows v3 ts)])))))))))
 (.leaf (Stop.done (SV.tuple [SV.agg [SV.list v3 [], SV.list v3 []], I64 (l.length : Int), I64 6])))
theorem rq2 (l : List (List UInt8)) (i : Int) (us ts : List (Int × Int × Int)) : segR (Env.of Tryd.prog (sumOf [fLines, fWords, fCorner])) 1000 (fnOf Tryd.prog 18) v3 (keepS 55 [2,5,6,7,8]) (loopOf Tryd.prog 18 0) rq2_p (slotsS 55 [(2, .ptr 0 0), (5, .ptr 1 0), (6, I64 2), (7, .list .str l), (8, I64 i)]) [some (.cells [.nilS, .nilS]), some (.cells [.row 2, .row 3]), some (.rows v3 us), some (.rows v3 ts)] = rq2_t l i us ts := by kernel_rfl
def rq3_p : Plan := .fork (.fork (.all) (.lit (.lit (.lit (.lit (.fork (.lit (.all)) (.fork (.all) (.all)))))))) (.lit (.all))
noncomputable def rq3_t (l : List (List UInt8)) (i : Int) (us ts : List (Int × Int × Int)) : Tree Stop :=
   .node (decide (i < (l.length : Int)))
 (.req (decide (0 ≤ i) && decide (i < (l.length : Int))) (.req (small (nthW l i.toNat)) (.node (((fw l i).length : Int) == 0)
    (.leaf (Stop.at (loopOf Tryd.prog 18 0) 55 (slotsS 55 [(2, SV.ptr 0 0), (5, SV.ptr 1 0), (6, I64 3), (7, SV.list Ty.str l), (8, I64 (IntKind.i64.wrap (i + 1)))]) [some (Box.cells [SV.nilS, SV.nilS]), some (Box.cells [SV.row 2, SV.row 3]), some (Box.rows v3 us), some (Box.rows v3 ts)]))
    (.req ((fw l i).all fun s => small s) (.node (decide (cErr (fw l i) = 0))
      (.req (decide ((us.length + [cTri (fw l i)].length) * 24 ≤ 140737488355328)) (.leaf (Stop.at (loopOf Tryd.prog 18 0) 55 (slotsS 55 [(2, SV.ptr 0 0), (5, SV.ptr 1 0), (6, I64 4), (7, SV.list Ty.str l), (8, I64 (IntKind.i64.wrap (i + 1)))]) [some (Box.cells [SV.nilS, SV.nilS]), some (Box.cells [SV.row 2, SV.row 3]), some (Box.rows v3 (us ++ [cTri (fw l i)])), some (Box.rows v3 ts)])))
      (.req (decide ((us.length + 1) * 24 ≤ 140737488355328)) (.node (cErr (fw l i) != 0)
        (.leaf (Stop.done (SV.tuple [SV.agg [SV.list v3 [], SV.list v3 []], I64 (IntKind.i64.wrap (i + 1)), I64 (cErr (fw l i))])))
        (.leaf (Stop.at (loopOf Tryd.prog 18 0) 55 (slotsS 55 [(2, SV.ptr 0 0), (5, SV.ptr 1 0), (6, I64 4), (7, SV.list Ty.str l), (8, I64 (IntKind.i64.wrap (i + 1)))]) [some (Box.cells [SV.nilS, SV.nilS]), some (Box.cells [SV.row 2, SV.row 3]), some (Box.rows v3 (us ++ [(0, 0, 0)])), some (Box.rows v3 ts)])))))))))
 (.leaf (Stop.done (SV.tuple [SV.agg [SV.list v3 [], SV.list v3 []], I64 (l.length : Int), I64 6])))
theorem rq3 (l : List (List UInt8)) (i : Int) (us ts : List (Int × Int × Int)) : segR (Env.of Tryd.prog (sumOf [fLines, fWords, fCorner])) 1000 (fnOf Tryd.prog 18) v3 (keepS 55 [2,5,6,7,8]) (loopOf Tryd.prog 18 0) rq3_p (slotsS 55 [(2, .ptr 0 0), (5, .ptr 1 0), (6, I64 3), (7, .list .str l), (8, I64 i)]) [some (.cells [.nilS, .nilS]), some (.cells [.row 2, .row 3]), some (.rows v3 us), some (.rows v3 ts)] = rq3_t l i us ts := by kernel_rfl
def rq4_p : Plan := .fork (.fork (.all) (.lit (.lit (.lit (.lit (.fork (.lit (.all)) (.fork (.all) (.all)))))))) (.lit (.all))
noncomputable def rq4_t (l : List (List UInt8)) (i : Int) (us ts : List (Int × Int × Int)) : Tree Stop :=
   .node (decide (i < (l.length : Int)))
 (.req (decide (0 ≤ i) && decide (i < (l.length : Int))) (.req (small (nthW l i.toNat)) (.node (((fw l i).length : Int) == 0)
    (.leaf (Stop.at (loopOf Tryd.prog 18 0) 55 (slotsS 55 [(2, SV.ptr 0 0), (5, SV.ptr 1 0), (6, I64 4), (7, SV.list Ty.str l), (8, I64 (IntKind.i64.wrap (i + 1)))]) [some (Box.cells [SV.nilS, SV.nilS]), some (Box.cells [SV.row 2, SV.row 3]), some (Box.rows v3 us), some (Box.rows v3 ts)]))
    (.req ((fw l i).all fun s => small s) (.node (decide (cErr (fw l i) = 0))
      (.req (decide ((us.length + [cTri (fw l i)].length) * 24 ≤ 140737488355328)) (.leaf (Stop.at (loopOf Tryd.prog 18 0) 55 (slotsS 55 [(2, SV.ptr 0 0), (5, SV.ptr 1 0), (6, I64 5), (7, SV.list Ty.str l), (8, I64 (IntKind.i64.wrap (i + 1)))]) [some (Box.cells [SV.nilS, SV.nilS]), some (Box.cells [SV.row 2, SV.row 3]), some (Box.rows v3 (us ++ [cTri (fw l i)])), some (Box.rows v3 ts)])))
      (.req (decide ((us.length + 1) * 24 ≤ 140737488355328)) (.node (cErr (fw l i) != 0)
        (.leaf (Stop.done (SV.tuple [SV.agg [SV.list v3 [], SV.list v3 []], I64 (IntKind.i64.wrap (i + 1)), I64 (cErr (fw l i))])))
        (.leaf (Stop.at (loopOf Tryd.prog 18 0) 55 (slotsS 55 [(2, SV.ptr 0 0), (5, SV.ptr 1 0), (6, I64 5), (7, SV.list Ty.str l), (8, I64 (IntKind.i64.wrap (i + 1)))]) [some (Box.cells [SV.nilS, SV.nilS]), some (Box.cells [SV.row 2, SV.row 3]), some (Box.rows v3 (us ++ [(0, 0, 0)])), some (Box.rows v3 ts)])))))))))
 (.leaf (Stop.done (SV.tuple [SV.agg [SV.list v3 [], SV.list v3 []], I64 (l.length : Int), I64 6])))
theorem rq4 (l : List (List UInt8)) (i : Int) (us ts : List (Int × Int × Int)) : segR (Env.of Tryd.prog (sumOf [fLines, fWords, fCorner])) 1000 (fnOf Tryd.prog 18) v3 (keepS 55 [2,5,6,7,8]) (loopOf Tryd.prog 18 0) rq4_p (slotsS 55 [(2, .ptr 0 0), (5, .ptr 1 0), (6, I64 4), (7, .list .str l), (8, I64 i)]) [some (.cells [.nilS, .nilS]), some (.cells [.row 2, .row 3]), some (.rows v3 us), some (.rows v3 ts)] = rq4_t l i us ts := by kernel_rfl
def rq5_p : Plan := .fork (.fork (.all) (.lit (.lit (.lit (.lit (.fork (.lit (.all)) (.lit (.lit (.lit (.lit (.lit (.lit (.lit (.lit (.lit (.lit (.lit (.lit (.lit (.lit (.lit (.lit (.lit (.lit (.lit (.lit (.lit (.lit (.lit (.fork (.lit (.all)) (.lit (.all)))))))))))))))))))))))))))))))) (.lit (.all))
noncomputable def rq5_t (l : List (List UInt8)) (i : Int) (us ts : List (Int × Int × Int)) : Tree Stop :=
   .node (decide (i < (l.length : Int)))
 (.req (decide (0 ≤ i) && decide (i < (l.length : Int))) (.req (small (nthW l i.toNat)) (.node (((fw l i).length : Int) == 0)
    (.leaf (Stop.at (loopOf Tryd.prog 18 0) 55 (slotsS 55 [(2, SV.ptr 0 0), (5, SV.ptr 1 0), (6, I64 5), (7, SV.list Ty.str l), (8, I64 (IntKind.i64.wrap (i + 1)))]) [some (Box.cells [SV.nilS, SV.nilS]), some (Box.cells [SV.row 2, SV.row 3]), some (Box.rows v3 us), some (Box.rows v3 ts)]))
    (.node (((fw l i).length : Int) != 1)
     (.leaf (Stop.done (SV.tuple [SV.agg [SV.list v3 [], SV.list v3 []], I64 (IntKind.i64.wrap (i + 1)), I64 5])))
     (.req (decide (0 < ((fw l i).length : Int))) (.node (nthW (fw l i) 0 == [101, 110, 100, 102, 97, 99, 101, 116])
       (.req (decide ((ts.length + [triE us].length) * 24 ≤ 140737488355328)) (.leaf (Stop.at (loopOf Tryd.prog 18 0) 55 (slotsS 55 [(2, SV.ptr 0 0), (5, SV.ptr 1 0), (6, I64 1), (7, SV.list Ty.str l), (8, I64 (IntKind.i64.wrap (i + 1)))]) [some (Box.cells [SV.nilS, SV.nilS]), some (Box.cells [SV.row 2, SV.row 3]), some (Box.rows v3 us), some (Box.rows v3 (ts ++ [triE us]))])))
       (.leaf (Stop.done (SV.tuple [SV.agg [SV.list v3 [], SV.list v3 []], I64 (IntKind.i64.wrap (i + 1)), I64 5])))))))))
 (.leaf (Stop.done (SV.tuple [SV.agg [SV.list v3 [], SV.list v3 []], I64 (l.length : Int), I64 6])))
theorem rq5 (l : List (List UInt8)) (i : Int) (us ts : List (Int × Int × Int)) : segR (Env.of Tryd.prog (sumOf [fLines, fWords, fCorner])) 1000 (fnOf Tryd.prog 18) v3 (keepS 55 [2,5,6,7,8]) (loopOf Tryd.prog 18 0) rq5_p (slotsS 55 [(2, .ptr 0 0), (5, .ptr 1 0), (6, I64 5), (7, .list .str l), (8, I64 i)]) [some (.cells [.nilS, .nilS]), some (.cells [.row 2, .row 3]), some (.rows v3 us), some (.rows v3 ts)] = rq5_t l i us ts := by kernel_rfl
def rq6_p : Plan := .fork (.fork (.all) (.lit (.lit (.lit (.lit (.fork (.lit (.all)) (.lit (.lit (.lit (.lit (.lit (.lit (.lit (.lit (.lit (.lit (.lit (.lit (.lit (.lit (.lit (.lit (.lit (.lit (.lit (.lit (.lit (.lit (.lit (.lit (.lit (.all)))))))))))))))))))))))))))))))) (.lit (.all))
noncomputable def rq6_t (l : List (List UInt8)) (i : Int) (us ts : List (Int × Int × Int)) : Tree Stop :=
   .node (decide (i < (l.length : Int)))
 (.req (decide (0 ≤ i) && decide (i < (l.length : Int))) (.req (small (nthW l i.toNat)) (.node (((fw l i).length : Int) == 0)
    (.leaf (Stop.at (loopOf Tryd.prog 18 0) 55 (slotsS 55 [(2, SV.ptr 0 0), (5, SV.ptr 1 0), (6, I64 6), (7, SV.list Ty.str l), (8, I64 (IntKind.i64.wrap (i + 1)))]) [some (Box.cells [SV.nilS, SV.nilS]), some (Box.cells [SV.row 2, SV.row 3]), some (Box.rows v3 us), some (Box.rows v3 ts)]))
    (.node (((fw l i).length : Int) != 1)
     (.leaf (Stop.done (SV.tuple [SV.agg [SV.list v3 [], SV.list v3 []], I64 (IntKind.i64.wrap (i + 1)), I64 5])))
     (.leaf (Stop.done (SV.tuple [SV.agg [SV.list v3 [], SV.list v3 []], I64 (IntKind.i64.wrap (i + 1)), I64 5])))))))
 (.leaf (Stop.done (SV.tuple [SV.agg [SV.list v3 us, SV.list v3 ts], I64 0, I64 0])))
theorem rq6 (l : List (List UInt8)) (i : Int) (us ts : List (Int × Int × Int)) : segR (Env.of Tryd.prog (sumOf [fLines, fWords, fCorner])) 1000 (fnOf Tryd.prog 18) v3 (keepS 55 [2,5,6,7,8]) (loopOf Tryd.prog 18 0) rq6_p (slotsS 55 [(2, .ptr 0 0), (5, .ptr 1 0), (6, I64 6), (7, .list .str l), (8, I64 i)]) [some (.cells [.nilS, .nilS]), some (.cells [.row 2, .row 3]), some (.rows v3 us), some (.rows v3 ts)] = rq6_t l i us ts := by kernel_rfl
end Go.Proofs.YtlhkgeoahblffaaDoor
set_option linter.unusedSimpArgs false
set_option linter.unusedVariables false
namespace Go.Sx
open Go.RowKit

/-! ### Trees that set a box -/

theorem setT_flat {β : Type} : ∀ (d : Nat) (t : Tb β) (i : Nat) (v : Option β), (∃ t', ∀ (α : Type) (k : Tb β → Tree α), setT d t i v k = k t') ∨ ∃ n, ∀ (α : Type) (k : Tb β → Tree α), setT d t i v k = .fail n
  | 0, t, i, v => .inr ⟨3, fun _ _ => rfl⟩
  | d + 1, .e, 0, v => .inl ⟨_, fun _ _ => rfl⟩
  | d + 1, .n l u r, 0, v => .inl ⟨_, fun _ _ => rfl⟩
  | d + 1, .e, j + 1, v => by
    by_cases hj : j % 2 = 0
    · have e : ∀ (α : Type) (k : Tb β → Tree α), setT (d + 1) .e (j + 1) v k = setT d .e (j / 2) v fun l => k (.n l none .e) := fun α k => by
        change Tb.pick j (fun i => setT d .e i v fun l => k (.n l none .e)) (fun i => setT d .e i v fun r => k (.n .e none r)) = _
        rw [Tb.pick_even hj]
      rcases setT_flat d .e (j / 2) v with ⟨t', h⟩ | ⟨n, h⟩
      · exact .inl ⟨_, fun α k => by rw [e, h]⟩
      · exact .inr ⟨n, fun α k => by rw [e, h]⟩
    · have e : ∀ (α : Type) (k : Tb β → Tree α), setT (d + 1) .e (j + 1) v k = setT d .e (j / 2) v fun r => k (.n .e none r) := fun α k => by
        change Tb.pick j (fun i => setT d .e i v fun l => k (.n l none .e)) (fun i => setT d .e i v fun r => k (.n .e none r)) = _
        rw [Tb.pick_odd hj]
      rcases setT_flat d .e (j / 2) v with ⟨t', h⟩ | ⟨n, h⟩
      · exact .inl ⟨_, fun α k => by rw [e, h]⟩
      · exact .inr ⟨n, fun α k => by rw [e, h]⟩
  | d + 1, .n l u r, j + 1, v => by
    by_cases hj : j % 2 = 0
    · have e : ∀ (α : Type) (k : Tb β → Tree α), setT (d + 1) (.n l u r) (j + 1) v k = setT d l (j / 2) v fun l => k (.n l u r) := fun α k => by
        change Tb.pick j (fun i => setT d l i v fun l => k (.n l u r)) (fun i => setT d r i v fun r => k (.n l u r)) = _
        rw [Tb.pick_even hj]
      rcases setT_flat d l (j / 2) v with ⟨t', h⟩ | ⟨n, h⟩
      · exact .inl ⟨_, fun α k => by rw [e, h]⟩
      · exact .inr ⟨n, fun α k => by rw [e, h]⟩
    · have e : ∀ (α : Type) (k : Tb β → Tree α), setT (d + 1) (.n l u r) (j + 1) v k = setT d r (j / 2) v fun r => k (.n l u r) := fun α k => by
        change Tb.pick j (fun i => setT d l i v fun l => k (.n l u r)) (fun i => setT d r i v fun r => k (.n l u r)) = _
        rw [Tb.pick_odd hj]
      rcases setT_flat d r (j / 2) v with ⟨t', h⟩ | ⟨n, h⟩
      · exact .inl ⟨_, fun α k => by rw [e, h]⟩
      · exact .inr ⟨n, fun α k => by rw [e, h]⟩

section
variable {α : Type} {Φ : α → Prop}
theorem setT_says {β : Type} {d : Nat} {t : Tb β} {i : Nat} {v : Option β} {k : Tb β → Tree α} (h : ∀ t', TbSet t i v t' → (k t').says Φ) : (setT d t i v k).says Φ := by
  rcases setT_flat d t i v with ⟨t', h1⟩ | ⟨n, h1⟩
  · rw [h1]
    obtain ⟨t2, g1, g2⟩ := holds_setT (L := fun x => x = t') d t i v .leaf (by rw [h1]; exact rfl)
    obtain rfl : t2 = t' := g2
    exact h _ g1
  · rw [h1]; trivial
theorem Mem.set_says {m : Mem} {id : Nat} {b : Option Box} {k : Mem → Tree α} (h : ∀ m', MSet m id b m' → (k m').says Φ) : (m.set id b k).says Φ :=
  setT_says fun tb htb => h _ ⟨htb, rfl⟩
theorem Mem.push_says {m : Mem} {B : Box} {k : Mem → Nat → Tree α} (h : ∀ m', MPush m B m' → (k m' m.next).says Φ) : (m.push B k).says Φ := by
  unfold Mem.push
  rw [frcN_eq]
  exact setT_says fun tb htb => h _ ⟨htb, rfl⟩
end

/-- Contracts out of trees, with such functions known. -/
theorem scall_vW {P : Program} [ElOK P] (hmix : P.follows .mixedOrders = true) (l : List Fact) (hl : allOk P l) (k : List WFact) (hk : ∀ x ∈ k, x.ok P) (n : Nat) (p : Plan) {f : FuncId} {args : List SV} {v : SV} {t : Tree SV}
    (ht : (execFn (Env.ofW P (sumOf l) (wrOf k)) n f args p).vals = t) (h : t.holds fun x => x = v) (hd : dataL args = true) (hv : v.data = true) : SCall P f args v :=
  scall_of_exec (n := n) (p := p) (known_ofW hmix hl.all hk) hd hv (Tree.vals_holds _ (by rw [ht]; exact h))

/-! ### A block that is stored into -/

theorem setCells_at {P : Program} {w : World} {g o : Nat} {arr : Array Value} {e : TypeId} {fr : Nat × Nat} {vs : List Value} (hg : w.heap[g]? = some (.cells arr e fr)) (hu : unfrozen arr fr) (hl : o + vs.length ≤ arr.size) (h1 : ∀ v ∈ vs, v.oneCell' = true) :
    (w.setCells g o vs).heap[g]? = some (.cells (overA arr o vs) e fr) ∧ (w.setCells g o vs).os = w.os ∧ (w.setCells g o vs).tape = w.tape ∧ (w.setCells g o vs).output = w.output ∧ (w.setCells g o vs).heap.size = w.heap.size ∧ (∀ k, k ≠ g → (w.setCells g o vs).heap[k]? = w.heap[k]?) := by
  obtain ⟨w', r1, r2⟩ := run_storeCells' (P := P) g o e fr vs 0 arr w hg hu (by simpa using hl) h1
  have hc : ∀ j (hj : j < vs.length), w.cell? ⟨g, o + 0 + j, none⟩ = some (arr[o + j]'(by omega)) := fun j hj => by
    rw [cell_of_row w g _ arr e fr hg]; simp
  have hf : ∀ j, j < vs.length → w.frozen? ⟨g, o + 0 + j, none⟩ = false := fun j hj => by
    have := hu (o + j) (by omega)
    simp only [World.frozen?, hg, Nat.add_zero]
    by_cases h2 : fr.1 ≤ o + j
    · have h3 : ¬ o + j < fr.2 := fun h3 => this ⟨h2, h3⟩
      simp [h3]
    · simp [h2]
  have h2 := run_storeCells_cells (P := P) g o vs 0 w (fun j hj => by rw [hc j hj]; rfl) hf h1
  rw [r1] at h2
  injection h2 with h2 h3
  subst h3
  simpa using r2

theorem not_frozen {w : World} {g o : Nat} {arr : Array Value} {e : TypeId} {fr : Nat × Nat} (hg : w.heap[g]? = some (.cells arr e fr)) (hu : unfrozen arr fr) (hl : o < arr.size) : w.frozen? ⟨g, o, none⟩ = false := by
  have := hu o hl
  simp only [World.frozen?, hg]
  by_cases h2 : fr.1 ≤ o
  · have h3 : ¬ o < fr.2 := fun h3 => this ⟨h2, h3⟩
    simp [h3]
  · simp [h2]

theorem run_clear_one {P : Program} (w : World) (t e ty : TypeId) (z : Value) (ht : P.underlying t = some (.slice e)) (hv : ∀ w, (zeroValue e).run P w = .ok z w) (h1 : ∀ v ∈ z.cells.toList, v.oneCell' = true) (b o c : Nat)
    (hc : ∀ j, j < z.cells.size → (w.cell? ⟨b, o + j, none⟩).isSome = true) (hf : ∀ j, j < z.cells.size → w.frozen? ⟨b, o + j, none⟩ = false) :
    (Builtin.clear_ #[t] ty #[.slice (some ⟨b, o, none⟩) 1 c]).run P w = .ok (.tuple #[]) (w.setCells b o z.cells.toList) := by
  have hzc : (Builtin.zeroCells z.cells 1).toList = z.cells.toList := by
    simp only [Builtin.zeroCells, Nat.one_mul]
    apply List.ext_getElem
    · simp
    · intro i h1 h2
      simp only [Array.length_toList] at h2
      simp [Nat.mod_eq_of_lt h2, h2]
  have hst := run_storeCells_cells (P := P) b o z.cells.toList 0 w (by simpa using hc) (by simpa using hf) h1
  simp only [Nat.add_zero] at hst
  simp [Builtin.clear_, run_underlying ht, hv, hzc, hst]

/-- The row of a box is another list now, in its own block. -/
theorem reshape {w0 : World} {R0 : Nat → Prop} {ρ : Rho} {w w' : World} {m m1 m' : Mem} (hm : MRel w0 R0 ρ w m) {id : Nat} {v : Ty} {l l' : List v.T} (hg : m.get id = some (.rows v l)) (h1 : MSet m id none m1) (h3 : MPush m1 (.rows v l') m')
    (hc0 : 0 < (ρ id).2.2) (hle : l'.length ≤ (ρ id).2.2) {arr : Array Value} {e : TypeId} {fr : Nat × Nat} {vs rest : List Value} (hh : w'.heap[(ρ id).1]? = some (.cells arr e fr)) (hu : unfrozenT v e arr fr) (hs : arr.size = (ρ id).2.2 * v.sz) (ha : arr.toList = vs ++ rest)
    (hr : RepDL (RO w0 R0 ρ w m) w v l' vs) (r3 : w'.os = w.os) (r4 : w'.tape = w.tape) (r5 : w'.output = w.output) (r6 : w'.heap.size = w.heap.size) (r7 : ∀ k, k ≠ (ρ id).1 → w'.heap[k]? = w.heap[k]?) :
    OpOut w0 R0 ρ w m (.row m.next) m' (.slice (some ⟨(ρ id).1, 0, none⟩) l'.length (ρ id).2.2) w' := by
  have hlen1 : m1.next = m.next := h1.2
  have hdrop : ∀ k C, m1.get k = some C → k ≠ id ∧ m.get k = some C := fun k C hk => by
    rw [h1.1 k] at hk
    by_cases e0 : k = id
    · rw [if_pos e0] at hk; cases hk
    · rw [if_neg e0] at hk; exact ⟨e0, hk⟩
  have hnew : ∀ k C, m'.get k = some C → (k = m.next ∧ C = .rows v l') ∨ (k ≠ m.next ∧ k ≠ id ∧ m.get k = some C) := fun k C hk => by
    rw [h3.1 k, hlen1] at hk
    by_cases e0 : k = m.next
    · rw [if_pos e0] at hk; injection hk with hk; exact .inl ⟨e0, hk.symm⟩
    · rw [if_neg e0] at hk; exact .inr ⟨e0, hdrop k C hk⟩
  have hidlt : id < m.next := hm.lt id _ hg
  have hsol : solid (ρ id) (.rows v l) := hc0
  have hblk := hm.hi id _ hg hsol
  have hblo := hm.lo id _ hg hsol
  have hro : ∀ b, RO w0 R0 ρ w m b → RO w0 R0 (upd ρ m.next ((ρ id).1, l'.length, (ρ id).2.2)) w' m' b := fun b hb => by
    have hne := hm.ro_ne hb hg hsol
    rcases hb with hb | ⟨g1, g2, g3⟩
    · exact .inl hb
    · refine .inr ⟨g1, by omega, fun k C hk hs' => ?_⟩
      rcases hnew k C hk with ⟨rfl, rfl⟩ | ⟨n1, n2, n3⟩
      · rw [upd_same]; exact hne
      · rw [upd_other _ _ n1] at hs' ⊢; exact g3 k C n3 hs'
  have hext : MExt w0 R0 ρ w m (upd ρ m.next ((ρ id).1, l'.length, (ρ id).2.2)) w' m' :=
    ⟨by rw [h3.2]; omega, fun k hk => upd_other _ _ (by omega), fun b hb => ⟨hro b hb, r7 b (Ne.symm (hm.ro_ne hb hg hsol))⟩⟩
  refine ⟨_, ⟨hm.below.trans ⟨r3, r4, r5, by omega, fun k hk => r7 k (by omega)⟩, fun k C hk => ?_, fun k C hk hs' => ?_, fun k C hk hs' => ?_, fun k k' C C' hk hk' hs1 hs2 he0 => ?_, fun k C hk => ?_⟩, hext, by rw [h3.2]; omega, _, by rw [upd_same], fun _ => by rw [upd_same]⟩
  · rw [h3.2]
    rcases hnew k C hk with ⟨rfl, _⟩ | ⟨_, _, n3⟩
    · omega
    · have := hm.lt k C n3; omega
  · rcases hnew k C hk with ⟨rfl, rfl⟩ | ⟨n1, _, n3⟩
    · rw [upd_same]; exact hblo
    · rw [upd_other _ _ n1] at hs' ⊢; exact hm.lo k C n3 hs'
  · rw [r6]
    rcases hnew k C hk with ⟨rfl, rfl⟩ | ⟨n1, _, n3⟩
    · rw [upd_same]; exact hblk
    · rw [upd_other _ _ n1] at hs' ⊢; exact hm.hi k C n3 hs'
  · rcases hnew k C hk with ⟨rfl, rfl⟩ | ⟨n1, n2, n3⟩ <;> rcases hnew k' C' hk' with ⟨rfl, rfl⟩ | ⟨n1', n2', n3'⟩
    · rfl
    · rw [upd_same] at he0; rw [upd_other _ _ n1'] at he0 hs2
      exact absurd (hm.inj id k' _ C' hg n3' hsol hs2 he0).symm n2'
    · rw [upd_same] at he0; rw [upd_other _ _ n1] at he0 hs1
      exact absurd (hm.inj k id C _ n3 hg hs1 hsol he0) n2
    · rw [upd_other _ _ n1] at he0 hs1; rw [upd_other _ _ n1'] at he0 hs2
      exact hm.inj k k' C C' n3 n3' hs1 hs2 he0
  · rcases hnew k C hk with ⟨rfl, rfl⟩ | ⟨n1, n2, n3⟩
    · rw [upd_same]
      exact boxRows_of rfl hle hh hu hs ha (RepDL.mono hext.keep hr)
    · rw [upd_other _ _ n1]
      exact BoxRel.mono hext C (fun hs' => r7 _ fun he0 => n2 (hm.inj k id C _ n3 hg hs' hsol he0)) (hm.box k C n3)

/-- A list of rows without the row at a place. -/
theorem RepDL.split {R : Nat → Prop} {w : World} {t : Ty} : ∀ {xs : List t.T} {us : List Value} (i : Nat), RepDL R w t xs us → RepDL R w t (xs.take i) (us.take (i * t.sz)) ∧ RepDL R w t (xs.drop i) (us.drop (i * t.sz))
  | xs, us, 0, h => by simpa [RepDL] using h
  | [], us, i + 1, h => by rw [show us = [] from h]; simp [RepDL]
  | x :: xs, us, i + 1, h => by
    obtain ⟨v1, v2, rfl, h1, h2⟩ := h
    have hl := (RepD.flat (ρ := fun _ => (0, 0, 0)) (n := 0) t x v1 h1).1
    obtain ⟨k1, k2⟩ := RepDL.split i h2
    have e1 : (i + 1) * t.sz = v1.length + i * t.sz := by rw [Nat.succ_mul, hl, Nat.add_comm]
    rw [e1, List.take_length_add_append, List.drop_length_add_append]
    exact ⟨⟨v1, _, rfl, h1, k1⟩, k2⟩
end Go.Sx
set_option linter.unusedSimpArgs false
set_option linter.unusedVariables false
namespace Go.Sx
open Go.RowKit

/-- The second says no more than the first (fz: boxes that are let go, and their rows data; k: the box of the nil slices). -/
inductive Wk (nz : Bool) (boxes : List (Option Box)) (fz : List Nat) : SV → SV → Prop where
  | same (x : SV) : Wk nz boxes fz x x
  | top (x : SV) : Wk nz boxes fz x .top
  | nil (h : nz = true) : Wk nz boxes fz .nilS (.row boxes.length)
  | frz {id : Nat} {t : Ty} {l : List t.T} (hid : id ∈ fz) (hb : boxes[id]? = some (some (.rows t l))) : Wk nz boxes fz (.row id) (.list t l)

def WkL (nz : Bool) (boxes : List (Option Box)) (fz : List Nat) : List SV → List SV → Prop
  | [], [] => True
  | x :: xs, y :: ys => Wk nz boxes fz x y ∧ WkL nz boxes fz xs ys
  | _, _ => False
def WkK (nz : Bool) (boxes : List (Option Box)) (fz : List Nat) : List (Nat × SV) → List (Nat × SV) → Prop
  | [], [] => True
  | x :: xs, y :: ys => x.1 = y.1 ∧ Wk nz boxes fz x.2 y.2 ∧ WkK nz boxes fz xs ys
  | _, _ => False
inductive WkB (nz : Bool) (boxes : List (Option Box)) (fz : List Nat) : Box → Box → Prop where
  | same (B : Box) : WkB nz boxes fz B B
  | cells {cs ds : List SV} (h : WkL nz boxes fz cs ds) : WkB nz boxes fz (.cells cs) (.cells ds)
def WkBs (nz : Bool) (boxes : List (Option Box)) (fz : List Nat) : Nat → List (Option Box) → List (Option Box) → Prop
  | _, [], [] => nz = false
  | _, [], some (.rows _ []) :: [] => True
  | i, _ :: bs, none :: bs' => WkBs nz boxes fz (i + 1) bs bs'
  | i, some B :: bs, some B' :: bs' => i ∉ fz ∧ WkB nz boxes fz B B' ∧ WkBs nz boxes fz (i + 1) bs bs'
  | _, _, _ => False

section
variable {nz : Bool} {boxes : List (Option Box)} {fz : List Nat}

theorem WkL.refl : ∀ l : List SV, WkL nz boxes fz l l
  | [] => trivial
  | x :: l => ⟨.same x, WkL.refl l⟩
theorem WkL.length : ∀ {l l' : List SV}, WkL nz boxes fz l l' → l'.length = l.length
  | [], [], _ => rfl
  | x :: xs, y :: ys, h => by simp [WkL.length h.2]
theorem WkL.get : ∀ {l l' : List SV}, WkL nz boxes fz l l' → ∀ {i : Nat} {y : SV}, l'[i]? = some y → ∃ x, l[i]? = some x ∧ Wk nz boxes fz x y
  | [], [], _, i, y, h => by simp at h
  | x :: xs, z :: ys, h, 0, y, hy => by
    simp at hy; subst hy
    exact ⟨x, rfl, h.1⟩
  | x :: xs, z :: ys, h, i + 1, y, hy => by
    simpa using WkL.get h.2 (i := i) (y := y) (by simpa using hy)
theorem WkK.lookup : ∀ {ks ks' : List (Nat × SV)}, WkK nz boxes fz ks ks' → ∀ i, Wk nz boxes fz ((ks.lookup i).getD .top) ((ks'.lookup i).getD .top)
  | [], [], _, i => .same _
  | x :: xs, y :: ys, h, i => by
    obtain ⟨h1, h2, h3⟩ := h
    obtain ⟨a, x⟩ := x
    obtain ⟨b, y⟩ := y
    dsimp only at h1 h2
    subst h1
    simp only [List.lookup]
    cases (i == a) with
    | true => exact h2
    | false => exact WkK.lookup h3 i
theorem slotsS_wk {n : Nat} {ks ks' : List (Nat × SV)} (h : WkK nz boxes fz ks ks') : WkL nz boxes fz (slotsS n ks) (slotsS n ks') := by
  unfold slotsS
  induction List.range n with
  | nil => trivial
  | cons i l ih => exact ⟨h.lookup i, ih⟩

theorem WkBs.len : ∀ {i : Nat} {bs bs' : List (Option Box)}, WkBs nz boxes fz i bs bs' → bs.length ≤ bs'.length
  | _, [], [], _ => Nat.le_refl _
  | _, [], some (.rows _ []) :: [], _ => by simp
  | i, _ :: bs, none :: bs', h => by simpa using WkBs.len (i := i + 1) (bs := bs) (bs' := bs') h
  | i, some B :: bs, some B' :: bs', h => by simpa using WkBs.len (i := i + 1) h.2.2
theorem WkBs.len2 (hz : nz = true) : ∀ {i : Nat} {bs bs' : List (Option Box)}, WkBs nz boxes fz i bs bs' → bs.length < bs'.length
  | _, [], [], h => by rw [show nz = false from h] at hz; cases hz
  | _, [], some (.rows _ []) :: [], _ => by simp
  | i, _ :: bs, none :: bs', h => by simpa using WkBs.len2 hz (i := i + 1) (bs := bs) (bs' := bs') h
  | i, some B :: bs, some B' :: bs', h => by simpa using WkBs.len2 hz (i := i + 1) h.2.2
theorem WkBs.get : ∀ {i : Nat} {bs bs' : List (Option Box)}, WkBs nz boxes fz i bs bs' → ∀ {j : Nat} {B' : Box}, (bs'[j]?).join = some B' → (∃ B, (bs[j]?).join = some B ∧ i + j ∉ fz ∧ WkB nz boxes fz B B') ∨ (j = bs.length ∧ ∃ t, B' = .rows t [])
  | _, [], [], _, j, B', h => by simp at h
  | _, [], some (.rows t []) :: [], _, 0, B', h => by
    simp at h; subst h
    exact .inr ⟨rfl, t, rfl⟩
  | _, [], some (.rows t []) :: [], _, j + 1, B', h => by simp at h
  | i, _ :: bs, none :: bs', h, 0, B', hj => by simp at hj
  | i, x :: bs, none :: bs', h, j + 1, B', hj => by
    have := WkBs.get (i := i + 1) (bs := bs) (bs' := bs') h (j := j) (B' := B') (by simpa using hj)
    simpa [Nat.add_assoc, Nat.add_comm 1 j] using this
  | i, some B :: bs, some C :: bs', h, 0, B', hj => by
    simp at hj; subst hj
    exact .inl ⟨B, rfl, by simpa using h.1, h.2.1⟩
  | i, some B :: bs, some C :: bs', h, j + 1, B', hj => by
    have := WkBs.get (i := i + 1) h.2.2 (j := j) (B' := B') (by simpa using hj)
    simpa [Nat.add_assoc, Nat.add_comm 1 j] using this

theorem SRelD.weak {ds : List Deferred} {slots slots' : List SV} {boxes' : List (Option Box)} {fr fr' : Fr} {m m' : Mem} (hc : Canon slots boxes fr m) (hc' : Canon slots' boxes' fr' m') (hs : WkL nz boxes fz slots slots') (hb : WkBs nz boxes fz 0 boxes boxes') {w0 : World} {R0 : Nat → Prop} {ρ : Rho} {w : World} {a : Act} (h : SRelD ds w0 R0 ρ w fr m a) :
    SRelD ds w0 R0 (upd ρ boxes.length (0, 0, 0)) w fr' m' a ∧ ∀ b, RO w0 R0 ρ w m b → RO w0 R0 (upd ρ boxes.length (0, 0, 0)) w m' b := by
  obtain ⟨h1, h2, h3⟩ := h
  have hlen := hb.len
  have hn : m.next = boxes.length := hc.next
  have hn' : m'.next = boxes'.length := hc'.next
  -- where each box comes from
  have hg : ∀ id B', m'.get id = some B' → (∃ B, m.get id = some B ∧ id ≠ boxes.length ∧ id ∉ fz ∧ WkB nz boxes fz B B') ∨ (id = boxes.length ∧ ∃ t, B' = .rows t []) := fun id B' hB => by
    rw [hc'.box] at hB
    rcases hb.get hB with ⟨B, k1, k2, k3⟩ | k
    · refine .inl ⟨B, by rw [hc.box]; exact k1, fun e => ?_, by simpa using k2, k3⟩
      subst e
      simp at k1
    · exact .inr k
  have hsol : ∀ {B B' : Box} {r : Nat × Nat × Nat}, WkB nz boxes fz B B' → (solid r B' ↔ solid r B) := fun hw => by
    cases hw with
    | same => exact Iff.rfl
    | cells => exact Iff.rfl
  have hro : ∀ b, RO w0 R0 ρ w m b → RO w0 R0 (upd ρ boxes.length (0, 0, 0)) w m' b := fun b hb2 => by
    rcases hb2 with hb2 | ⟨k1, k2, k3⟩
    · exact .inl hb2
    · refine .inr ⟨k1, k2, fun id B' hB hs' => ?_⟩
      rcases hg id B' hB with ⟨B, g1, g2, g3, g4⟩ | ⟨rfl, t, rfl⟩
      · rw [upd_other _ _ g2] at hs' ⊢
        exact k3 id B g1 ((hsol g4).1 hs')
      · rw [upd_same] at hs'; exact absurd hs' (Nat.lt_irrefl _)
  have e : Ext (RO w0 R0 ρ w m) ρ m.next w (RO w0 R0 (upd ρ boxes.length (0, 0, 0)) w m') (upd ρ boxes.length (0, 0, 0)) m'.next w := ⟨by omega, fun id hid => upd_other _ _ (by omega), fun b hb2 => ⟨hro b hb2, rfl⟩⟩
  have hval : ∀ (x y : SV) (v : Value), Wk nz boxes fz x y → Rep (RO w0 R0 ρ w m) ρ m.next w x v → Rep (RO w0 R0 (upd ρ boxes.length (0, 0, 0)) w m') (upd ρ boxes.length (0, 0, 0)) m'.next w y v := by
    intro x y v hw hr
    cases hw with
    | same => exact Rep.mono e _ _ hr
    | top => trivial
    | nil hz =>
      rw [show v = _ from hr]
      have hx := hb.len2 hz
      exact ⟨by omega, none, by rw [upd_same], fun h0 => by rw [upd_same] at h0; exact absurd h0 (Nat.lt_irrefl _)⟩
    | frz hid hb1 =>
      rename_i id t l
      obtain ⟨_, a, hu, ha⟩ := hr
      have hgid : m.get id = some (.rows t l) := by rw [hc.box, hb1]; rfl
      obtain ⟨b1, b2, hp⟩ := h1.box id _ hgid
      refine ⟨a, (ρ id).2.2, by rw [hu, b1], b2, fun h0 => ?_⟩
      have h0 : 0 < (ρ id).2.2 := Nat.lt_of_lt_of_le h0 b2
      obtain ⟨arr, el, fr, k1, k2, k3, k4⟩ := hp h0
      refine ⟨(ρ id).1, 0, ha h0, .inr ⟨h1.lo id _ hgid h0, h1.hi id _ hgid h0, fun id' B' hB hs' heq => ?_⟩, fun i hi => ?_⟩
      · rcases hg id' B' hB with ⟨B, g1, g2, g3, g4⟩ | ⟨rfl, t, rfl⟩
        · rw [upd_other _ _ g2] at hs' heq
          have := h1.inj id' id B _ g1 hgid ((hsol g4).1 hs') h0 heq
          subst this
          exact g3 hid
        · rw [upd_same] at hs'; exact absurd hs' (Nat.lt_irrefl _)
      · obtain ⟨cs, c1, c2, c3⟩ := k4 i hi
        refine ⟨cs, c1, fun j hj => ?_, RepD.mono e.keep _ _ _ c3⟩
        rw [cell_of_row w _ _ arr el fr k1, Nat.zero_add]
        exact c2 j hj
  have hvalL : ∀ (xs ys : List SV) (vs : List Value), WkL nz boxes fz xs ys → RepL (RO w0 R0 ρ w m) ρ m.next w xs vs → RepL (RO w0 R0 (upd ρ boxes.length (0, 0, 0)) w m') (upd ρ boxes.length (0, 0, 0)) m'.next w ys vs := by
    intro xs
    induction xs with
    | nil =>
      intro ys vs hw hr
      cases ys with
      | nil => exact hr
      | cons _ _ => exact hw.elim
    | cons x xs ih =>
      intro ys vs hw hr
      cases ys with
      | nil => exact hw.elim
      | cons y ys =>
        obtain ⟨u, us, rfl, r1, r2⟩ := hr
        exact ⟨u, us, rfl, hval x y u hw.1 r1, ih ys us hw.2 r2⟩
  refine ⟨⟨⟨h1.below, fun id B' hB => ?_, fun id B' hB hs' => ?_, fun id B' hB hs' => ?_, fun id id' B' C' hB hC hs1 hs2 heq => ?_, fun id B' hB => ?_⟩, ⟨?_, fun t => ?_⟩, h3⟩, hro⟩
  · rw [hn']
    rw [hc'.box] at hB
    rcases Nat.lt_or_ge id boxes'.length with k | k
    · exact k
    · rw [List.getElem?_eq_none k] at hB; cases hB
  · rcases hg id B' hB with ⟨B, g1, g2, g3, g4⟩ | ⟨rfl, t, rfl⟩
    · rw [upd_other _ _ g2] at hs' ⊢; exact h1.lo id B g1 ((hsol g4).1 hs')
    · rw [upd_same] at hs'; exact absurd hs' (Nat.lt_irrefl _)
  · rcases hg id B' hB with ⟨B, g1, g2, g3, g4⟩ | ⟨rfl, t, rfl⟩
    · rw [upd_other _ _ g2] at hs' ⊢; exact h1.hi id B g1 ((hsol g4).1 hs')
    · rw [upd_same] at hs'; exact absurd hs' (Nat.lt_irrefl _)
  · rcases hg id B' hB with ⟨B, g1, g2, g3, g4⟩ | ⟨rfl, t, rfl⟩
    · rcases hg id' C' hC with ⟨C, g1', g2', g3', g4'⟩ | ⟨rfl, t', rfl⟩
      · rw [upd_other _ _ g2] at hs1 heq; rw [upd_other _ _ g2'] at hs2 heq
        exact h1.inj id id' B C g1 g1' ((hsol g4).1 hs1) ((hsol g4').1 hs2) heq
      · rw [upd_same] at hs2; exact absurd hs2 (Nat.lt_irrefl _)
    · rw [upd_same] at hs1; exact absurd hs1 (Nat.lt_irrefl _)
  · rcases hg id B' hB with ⟨B, g1, g2, g3, g4⟩ | ⟨rfl, t, rfl⟩
    · rw [upd_other _ _ g2]
      cases g4 with
      | same => exact BoxRel.mono e _ (fun _ => rfl) (h1.box id _ g1)
      | cells hw =>
        obtain ⟨arr, el, fr2, k1, k2, k3⟩ := h1.box id _ g1
        exact ⟨arr, el, fr2, k1, k2, hvalL _ _ _ hw k3⟩
    · rw [upd_same]
      exact ⟨rfl, Nat.le_refl _, fun h0 => absurd h0 (Nat.lt_irrefl _)⟩
  · rw [hc'.size, hs.length, ← hc.size]; exact h2.1
  · rw [hc'.get t, List.getD_eq_getElem?_getD]
    cases hx : slots'[t]? with
    | none =>
      have ht : slots'.length ≤ t := by simpa using hx
      have : a.tmps.getD t Go.undef = Go.undef := by
        rw [Array.getD_eq_getD_getElem?, Array.getElem?_eq_none (by rw [← h2.1, hc.size, ← hs.length]; exact ht)]
        rfl
      rw [this]; exact rfl
    | some y =>
      obtain ⟨x, hx1, hw⟩ := hs.get hx
      refine hval x y _ hw ?_
      have := h2.2 t
      rw [hc.get t, List.getD_eq_getElem?_getD, hx1] at this
      exact this
end

/-- From a state the code comes to its end if it does so from a weaker one. -/
theorem runsR_weak {P : Program} (nz : Bool) {fn : Func} {v : SV} {items : List Item} {slots slots' : List SV} {boxes boxes' : List (Option Box)} (fz : List Nat) (hs : WkL nz boxes fz slots slots') (hb : WkBs nz boxes fz 0 boxes boxes') (h : RunsR P fn v items slots' boxes') : RunsR P fn v items slots boxes := by
  intro fr m hc w0 R0 ρ w a hS b cs
  obtain ⟨fr', m', hc'⟩ := Canon.of (slots := slots') (boxes := boxes')
  obtain ⟨h1, h2⟩ := SRelD.weak hc hc' hs hb hS
  obtain ⟨ρ', w', a', todo, u, q1, q2, q3, q4, q5, q6⟩ := h fr' m' hc' w0 R0 _ w a h1 b cs
  exact ⟨ρ', w', a', todo, u, q1, q2, fun b hb2 => q3 b (h2 b hb2), q4, q5, q6⟩
/-- The boxes named anew. -/
theorem runsR_ren {P : Program} {fn : Func} {v : SV} {items : List Item} {slots : List SV} {boxes : List (Option Box)} (ids : List Nat) (hn : nodupB ids = true) (h : RunsR P fn v items (renL ids slots) (ids.map fun id => ((boxes[id]?).join).map (renB ids))) : RunsR P fn v items slots boxes := by
  intro fr m hc w0 R0 ρ w a hS b cs
  obtain ⟨fr2, m2, hc2⟩ := Canon.of (slots := renL ids slots) (boxes := ids.map fun id => (m.get id).map (renB ids))
  have e : (ids.map fun id => (m.get id).map (renB ids)) = ids.map fun id => ((boxes[id]?).join).map (renB ids) := List.map_congr_left fun id _ => by rw [hc.box id]
  obtain ⟨h1, h2⟩ := hS.rename (nodupB_spec hn) hc2 hc.size.symm (fun i x hx => .inr (by rw [hc.get i, List.getD_eq_getElem?_getD, hx]; rfl))
  rw [e] at hc2
  obtain ⟨ρ', w', a', todo, u, q1, q2, q3, q4, q5, q6⟩ := h fr2 m2 hc2 w0 R0 _ w a h1 b cs
  exact ⟨ρ', w', a', todo, u, q1, q2, fun b hb2 => q3 b (h2 b hb2), q4, q5, q6⟩
end Go.Sx
set_option linter.unusedSimpArgs false
set_option linter.unusedVariables false
set_option maxRecDepth 100000
namespace Go.Proofs.YtlhkgeoahblffaaDoor
open Go.Sx

theorem kS : Known Tryd.prog (Env.of Tryd.prog (sumOf [fLines, fWords, fCorner])) := hK (l := [fLines, fWords, fCorner]) ⟨o_lines, o_words, o_corner, trivial⟩

/-! ### What it computes -/

inductive SR where
  | err (e : Int)
  | ok (t : Nat) (us ts : List T3)
def isW (w : List (List UInt8)) (x : List UInt8) : Bool := w.length == 1 && nthW w 0 == x
def rstep (t : Nat) (us ts : List T3) (w : List (List UInt8)) : SR := match t with
  | 0 => if isW w solidW = true then .ok 1 us ts else .err 5
  | 1 => if isW w facetW = true then .ok 2 us ts else if isW w endsolidW = true then .ok 6 us ts else .err 5
  | 2 => if cErr w = 0 then .ok 3 (us ++ [cTri w]) ts else .err (cErr w)
  | 3 => if cErr w = 0 then .ok 4 (us ++ [cTri w]) ts else .err (cErr w)
  | 4 => if cErr w = 0 then .ok 5 (us ++ [cTri w]) ts else .err (cErr w)
  | 5 => if isW w endfacetW = true then .ok 1 us (ts ++ [triE us]) else .err 5
  | _ => .err 5
def rL : List (List UInt8) → Int → Nat → List T3 → List T3 → PR
  | [], i, t, us, ts => if t = 6 then .ok us ts else .err i 6
  | x :: xs, i, t, us, ts => if (flds x).length = 0 then rL xs (i + 1) t us ts else match rstep t us ts (flds x) with
    | .err e => .err (i + 1) e
    | .ok t' us' ts' => rL xs (i + 1) t' us' ts'

theorem rstep0 {us ts : List T3} {w : List (List UInt8)} : rstep 0 us ts w = if isW w solidW = true then .ok 1 us ts else .err 5 := rfl
theorem rstep1 {us ts : List T3} {w : List (List UInt8)} : rstep 1 us ts w = if isW w facetW = true then .ok 2 us ts else if isW w endsolidW = true then .ok 6 us ts else .err 5 := rfl
theorem rstep2 {us ts : List T3} {w : List (List UInt8)} : rstep 2 us ts w = if cErr w = 0 then .ok 3 (us ++ [cTri w]) ts else .err (cErr w) := rfl
theorem rstep3 {us ts : List T3} {w : List (List UInt8)} : rstep 3 us ts w = if cErr w = 0 then .ok 4 (us ++ [cTri w]) ts else .err (cErr w) := rfl
theorem rstep4 {us ts : List T3} {w : List (List UInt8)} : rstep 4 us ts w = if cErr w = 0 then .ok 5 (us ++ [cTri w]) ts else .err (cErr w) := rfl
theorem rstep5 {us ts : List T3} {w : List (List UInt8)} : rstep 5 us ts w = if isW w endfacetW = true then .ok 1 us (ts ++ [triE us]) else .err 5 := rfl

/-! ### The walk -/

def slQ (t : Int) (l : List (List UInt8)) (i : Int) : List SV := slotsS 55 [(2, .ptr 0 0), (5, .ptr 1 0), (6, I64 t), (7, .list .str l), (8, I64 i)]
abbrev bxQ (us ts : List T3) : List (Option Box) := [some (.cells [.nilS, .nilS]), some (.cells [.row 2, .row 3]), some (.rows v3 us), some (.rows v3 ts)]
abbrev RQ (r : PR) (t : Nat) (l : List (List UInt8)) (i : Nat) (us ts : List T3) : Prop := RunsR Tryd.prog (fnOf Tryd.prog 18) (meshV r) (loopOf Tryd.prog 18 0) (slQ (t : Int) l (i : Int)) (bxQ us ts)

theorem drop_line {l : List (List UInt8)} {i : Nat} (h : i < l.length) : l.drop i = nthW l i :: l.drop (i + 1) := by
  have e : nthW l i = l[i] := by
    show l.getD i [] = _
    rw [List.getD_eq_getElem?_getD, List.getElem?_eq_getElem h]; rfl
  rw [List.drop_eq_getElem_cons h, e]

theorem rL_step {l : List (List UInt8)} {i t : Nat} {us ts : List T3} (h : i < l.length) : rL (l.drop i) (i : Int) t us ts = if (fw l (i : Int)).length = 0 then rL (l.drop (i + 1)) ((i + 1 : Nat) : Int) t us ts else match rstep t us ts (fw l (i : Int)) with
    | .err e => .err ((i + 1 : Nat) : Int) e
    | .ok t' us' ts' => rL (l.drop (i + 1)) ((i + 1 : Nat) : Int) t' us' ts' := by
  rw [drop_line h, rL]
  rfl
theorem rL_end {l : List (List UInt8)} {t : Nat} {us ts : List T3} : rL (l.drop l.length) (l.length : Int) t us ts = if t = 6 then .ok us ts else .err (l.length : Int) 6 := by
  rw [List.drop_length, rL]

/-- What each turn begins with. -/
theorem skel {L : Stop → Prop} {l : List (List UInt8)} {i : Nat} {A C : Stop} {B : Tree Stop} (hi : i < l.length) (hs : small (nthW l i) = true) (hA : (fw l (i : Int)).length = 0 → L A) (hB : (fw l (i : Int)).length ≠ 0 → B.holds L) :
    (Tree.node (decide ((i : Int) < (l.length : Int))) (.req (decide ((0 : Int) ≤ (i : Int)) && decide ((i : Int) < (l.length : Int))) (.req (small (nthW l ((i : Int)).toNat)) (.node (((fw l (i : Int)).length : Int) == 0) (.leaf A) B))) (.leaf C)).holds L := by
  refine ⟨fun _ => ⟨by simp; omega, hs, fun h => hA (by have := beq_iff_eq.1 h; omega), fun h => hB (by have := beq_eq_false_iff_ne.1 h; omega)⟩, fun h => absurd (of_decide_eq_false h) (by simp; omega)⟩
/-- One word, and this one. -/
theorem one_word {w : List (List UInt8)} {x : List UInt8} (h1 : w.length = 1) : isW w x = (nthW w 0 == x) := by
  unfold isW; rw [h1]; rfl
theorem no_word {w : List (List UInt8)} {x : List UInt8} (h1 : ¬ w.length = 1) : isW w x = false := by
  unfold isW; rw [beq_eq_false_iff_ne.2 h1]; rfl
theorem fw_small {l : List (List UInt8)} {i : Nat} (hs : small (nthW l i) = true) : ((fw l (i : Int)).all fun s => small s) = true := by
  rw [List.all_eq_true]
  exact flds_small hs

theorem rp_loop (l : List (List UInt8)) (hl : l.length ≤ 100000) (hs : ∀ i, small (nthW l i) = true) : ∀ (n i t : Nat) (us ts : List T3), i + n = l.length → t ≤ 6 → us.length ≤ i → ts.length ≤ i → RQ (rL (l.drop i) (i : Int) t us ts) t l i us ts
  | 0, i, t, us, ts, hi, ht, hu, hv => by
    have hi : i = l.length := hi
    subst hi
    rw [rL_end]
    match t, ht with
    | 0, _ =>
      refine runsR_seg kS (n := 1000) (hint := v3) (keep := keepS 55 [2, 5, 6, 7, 8]) (p := rq0_p) (meshV_data _) ?_
      erw [rq0 l (l.length : Int) us ts]
      exact ⟨fun h => absurd (of_decide_eq_true h) (by omega), fun _ => rfl⟩
    | 1, _ =>
      refine runsR_seg kS (n := 1000) (hint := v3) (keep := keepS 55 [2, 5, 6, 7, 8]) (p := rq1_p) (meshV_data _) ?_
      erw [rq1 l (l.length : Int) us ts]
      exact ⟨fun h => absurd (of_decide_eq_true h) (by omega), fun _ => rfl⟩
    | 2, _ =>
      refine runsR_seg kS (n := 1000) (hint := v3) (keep := keepS 55 [2, 5, 6, 7, 8]) (p := rq2_p) (meshV_data _) ?_
      erw [rq2 l (l.length : Int) us ts]
      exact ⟨fun h => absurd (of_decide_eq_true h) (by omega), fun _ => rfl⟩
    | 3, _ =>
      refine runsR_seg kS (n := 1000) (hint := v3) (keep := keepS 55 [2, 5, 6, 7, 8]) (p := rq3_p) (meshV_data _) ?_
      erw [rq3 l (l.length : Int) us ts]
      exact ⟨fun h => absurd (of_decide_eq_true h) (by omega), fun _ => rfl⟩
    | 4, _ =>
      refine runsR_seg kS (n := 1000) (hint := v3) (keep := keepS 55 [2, 5, 6, 7, 8]) (p := rq4_p) (meshV_data _) ?_
      erw [rq4 l (l.length : Int) us ts]
      exact ⟨fun h => absurd (of_decide_eq_true h) (by omega), fun _ => rfl⟩
    | 5, _ =>
      refine runsR_seg kS (n := 1000) (hint := v3) (keep := keepS 55 [2, 5, 6, 7, 8]) (p := rq5_p) (meshV_data _) ?_
      erw [rq5 l (l.length : Int) us ts]
      exact ⟨fun h => absurd (of_decide_eq_true h) (by omega), fun _ => rfl⟩
    | 6, _ =>
      refine runsR_seg kS (n := 1000) (hint := v3) (keep := keepS 55 [2, 5, 6, 7, 8]) (p := rq6_p) (meshV_data _) ?_
      erw [rq6 l (l.length : Int) us ts]
      exact ⟨fun h => absurd (of_decide_eq_true h) (by omega), fun _ => rfl⟩
    | t + 7, ht => omega
  | n + 1, i, t, us, ts, hi, ht, hu, hv => by
    have hil : i < l.length := by omega
    have IH := fun t us ts ht hu hv => rp_loop l hl hs n (i + 1) t us ts (by omega) ht hu hv
    rw [rL_step hil]
    match t, ht with
    | 0, _ =>
      refine runsR_seg kS (n := 1000) (hint := v3) (keep := keepS 55 [2, 5, 6, 7, 8]) (p := rq0_p) (meshV_data _) ?_
      erw [rq0 l (i : Int) us ts]
      unfold rq0_t
      rw [wr1 (by omega)]
      refine skel hil (hs i) (fun h0 => ⟨slotsS_len _ _, by rw [if_pos h0]; exact IH 0 us ts (by decide) (by omega) (by omega)⟩) fun h0 => ?_
      rw [if_neg h0]
      by_cases h1 : (fw l (i : Int)).length = 1
      · refine ⟨fun h => absurd h (by simp; omega), fun _ => ⟨by simp; omega, ?_⟩⟩
        refine ⟨fun h => ?_, fun h => ?_⟩
        · have e : rstep 0 us ts (fw l (i : Int)) = .ok 1 us ts := by rw [rstep0, if_pos (by rw [one_word h1]; exact h)]
          rw [e]
          exact ⟨slotsS_len _ _, IH 1 _ _ (by decide) (by omega) (by omega)⟩
        · have g0 : ¬ isW (fw l (i : Int)) solidW = true := by rw [one_word h1, h]; simp
          have e : rstep 0 us ts (fw l (i : Int)) = .err 5 := by rw [rstep0, if_neg g0]
          rw [e]; rfl
      · refine ⟨fun _ => ?_, fun h => absurd h (by simp; omega)⟩
        have e : rstep 0 us ts (fw l (i : Int)) = .err 5 := by rw [rstep0, if_neg (by rw [no_word h1]; simp)]
        rw [e]; rfl
    | 1, _ =>
      refine runsR_seg kS (n := 1000) (hint := v3) (keep := keepS 55 [2, 5, 6, 7, 8]) (p := rq1_p) (meshV_data _) ?_
      erw [rq1 l (i : Int) us ts]
      unfold rq1_t
      rw [wr1 (by omega)]
      refine skel hil (hs i) (fun h0 => ⟨slotsS_len _ _, by rw [if_pos h0]; exact IH 1 us ts (by decide) (by omega) (by omega)⟩) fun h0 => ?_
      rw [if_neg h0]
      by_cases h1 : (fw l (i : Int)).length = 1
      · refine ⟨fun h => absurd h (by simp; omega), fun _ => ⟨by simp; omega, ?_⟩⟩
        refine ⟨fun h => ?_, fun h => ?_⟩
        · have e : rstep 1 us ts (fw l (i : Int)) = .ok 2 us ts := by rw [rstep1, if_pos (by rw [one_word h1]; exact h)]
          rw [e]
          exact ⟨slotsS_len _ _, IH 2 _ _ (by decide) (by omega) (by omega)⟩
        · have g0 : ¬ isW (fw l (i : Int)) facetW = true := by rw [one_word h1, h]; simp
          refine ⟨by simp; omega, fun h => ?_, fun h => ?_⟩
          · have e : rstep 1 us ts (fw l (i : Int)) = .ok 6 us ts := by rw [rstep1, if_neg g0, if_pos (by rw [one_word h1]; exact h)]
            rw [e]
            exact ⟨slotsS_len _ _, IH 6 _ _ (by decide) (by omega) (by omega)⟩
          · have g1 : ¬ isW (fw l (i : Int)) endsolidW = true := by rw [one_word h1, h]; simp
            have e : rstep 1 us ts (fw l (i : Int)) = .err 5 := by rw [rstep1, if_neg g0, if_neg g1]
            rw [e]; rfl
      · refine ⟨fun _ => ?_, fun h => absurd h (by simp; omega)⟩
        have e : rstep 1 us ts (fw l (i : Int)) = .err 5 := by rw [rstep1, if_neg (by rw [no_word h1]; simp), if_neg (by rw [no_word h1]; simp)]
        rw [e]; rfl
    | 2, _ =>
      refine runsR_seg kS (n := 1000) (hint := v3) (keep := keepS 55 [2, 5, 6, 7, 8]) (p := rq2_p) (meshV_data _) ?_
      erw [rq2 l (i : Int) us ts]
      unfold rq2_t
      rw [wr1 (by omega)]
      refine skel hil (hs i) (fun h0 => ⟨slotsS_len _ _, by rw [if_pos h0]; exact IH 2 us ts (by decide) (by omega) (by omega)⟩) fun h0 => ?_
      rw [if_neg h0]
      refine ⟨fw_small (hs i), fun h1 => ?_, fun h1 => ?_⟩
      · have h1 := of_decide_eq_true h1
        have e : rstep 2 us ts (fw l (i : Int)) = .ok 3 (us ++ [cTri (fw l (i : Int))]) ts := by rw [rstep2, if_pos h1]
        rw [e]
        exact ⟨decide_eq_true (by simp; omega), slotsS_len _ _, IH 3 _ ts (by decide) (by simp; omega) (by omega)⟩
      · have h1 := of_decide_eq_false h1
        have e : rstep 2 us ts (fw l (i : Int)) = .err (cErr (fw l (i : Int))) := by rw [rstep2, if_neg h1]
        rw [e]
        exact ⟨decide_eq_true (by omega), fun _ => rfl, fun h => by simp at h; exact absurd h h1⟩
    | 3, _ =>
      refine runsR_seg kS (n := 1000) (hint := v3) (keep := keepS 55 [2, 5, 6, 7, 8]) (p := rq3_p) (meshV_data _) ?_
      erw [rq3 l (i : Int) us ts]
      unfold rq3_t
      rw [wr1 (by omega)]
      refine skel hil (hs i) (fun h0 => ⟨slotsS_len _ _, by rw [if_pos h0]; exact IH 3 us ts (by decide) (by omega) (by omega)⟩) fun h0 => ?_
      rw [if_neg h0]
      refine ⟨fw_small (hs i), fun h1 => ?_, fun h1 => ?_⟩
      · have h1 := of_decide_eq_true h1
        have e : rstep 3 us ts (fw l (i : Int)) = .ok 4 (us ++ [cTri (fw l (i : Int))]) ts := by rw [rstep3, if_pos h1]
        rw [e]
        exact ⟨decide_eq_true (by simp; omega), slotsS_len _ _, IH 4 _ ts (by decide) (by simp; omega) (by omega)⟩
      · have h1 := of_decide_eq_false h1
        have e : rstep 3 us ts (fw l (i : Int)) = .err (cErr (fw l (i : Int))) := by rw [rstep3, if_neg h1]
        rw [e]
        exact ⟨decide_eq_true (by omega), fun _ => rfl, fun h => by simp at h; exact absurd h h1⟩
    | 4, _ =>
      refine runsR_seg kS (n := 1000) (hint := v3) (keep := keepS 55 [2, 5, 6, 7, 8]) (p := rq4_p) (meshV_data _) ?_
      erw [rq4 l (i : Int) us ts]
      unfold rq4_t
      rw [wr1 (by omega)]
      refine skel hil (hs i) (fun h0 => ⟨slotsS_len _ _, by rw [if_pos h0]; exact IH 4 us ts (by decide) (by omega) (by omega)⟩) fun h0 => ?_
      rw [if_neg h0]
      refine ⟨fw_small (hs i), fun h1 => ?_, fun h1 => ?_⟩
      · have h1 := of_decide_eq_true h1
        have e : rstep 4 us ts (fw l (i : Int)) = .ok 5 (us ++ [cTri (fw l (i : Int))]) ts := by rw [rstep4, if_pos h1]
        rw [e]
        exact ⟨decide_eq_true (by simp; omega), slotsS_len _ _, IH 5 _ ts (by decide) (by simp; omega) (by omega)⟩
      · have h1 := of_decide_eq_false h1
        have e : rstep 4 us ts (fw l (i : Int)) = .err (cErr (fw l (i : Int))) := by rw [rstep4, if_neg h1]
        rw [e]
        exact ⟨decide_eq_true (by omega), fun _ => rfl, fun h => by simp at h; exact absurd h h1⟩
    | 5, _ =>
      refine runsR_seg kS (n := 1000) (hint := v3) (keep := keepS 55 [2, 5, 6, 7, 8]) (p := rq5_p) (meshV_data _) ?_
      erw [rq5 l (i : Int) us ts]
      unfold rq5_t
      rw [wr1 (by omega)]
      refine skel hil (hs i) (fun h0 => ⟨slotsS_len _ _, by rw [if_pos h0]; exact IH 5 us ts (by decide) (by omega) (by omega)⟩) fun h0 => ?_
      rw [if_neg h0]
      by_cases h1 : (fw l (i : Int)).length = 1
      · refine ⟨fun h => absurd h (by simp; omega), fun _ => ⟨by simp; omega, ?_⟩⟩
        refine ⟨fun h => ?_, fun h => ?_⟩
        · have e : rstep 5 us ts (fw l (i : Int)) = .ok 1 us (ts ++ [triE us]) := by rw [rstep5, if_pos (by rw [one_word h1]; exact h)]
          rw [e]
          exact ⟨decide_eq_true (by simp; omega), slotsS_len _ _, IH 1 _ _ (by decide) (by omega) (by simp; omega)⟩
        · have g0 : ¬ isW (fw l (i : Int)) endfacetW = true := by rw [one_word h1, h]; simp
          have e : rstep 5 us ts (fw l (i : Int)) = .err 5 := by rw [rstep5, if_neg g0]
          rw [e]; rfl
      · refine ⟨fun _ => ?_, fun h => absurd h (by simp; omega)⟩
        have e : rstep 5 us ts (fw l (i : Int)) = .err 5 := by rw [rstep5, if_neg (by rw [no_word h1]; simp)]
        rw [e]; rfl
    | 6, _ =>
      refine runsR_seg kS (n := 1000) (hint := v3) (keep := keepS 55 [2, 5, 6, 7, 8]) (p := rq6_p) (meshV_data _) ?_
      erw [rq6 l (i : Int) us ts]
      unfold rq6_t
      rw [wr1 (by omega)]
      refine skel hil (hs i) (fun h0 => ⟨slotsS_len _ _, by rw [if_pos h0]; exact IH 6 us ts (by decide) (by omega) (by omega)⟩) fun h0 => ?_
      rw [if_neg h0]
      exact ⟨fun _ => rfl, fun _ => rfl⟩
    | t + 7, ht => omega

def refT (s : List UInt8) : SV := if (s.length : Int) > 65536 then .tuple [.agg [.list v3 [], .list v3 []], I64 0, I64 2] else meshV (rL (lns s) 0 0 [] [])
theorem lns_small : ∀ (n : Nat) (s : List UInt8), s.length < n → small s = true → (∀ x ∈ lns s, small x = true) ∧ (lns s).length ≤ s.length
  | 0, s, h, _ => absurd h (Nat.not_lt_zero _)
  | n + 1, s, h, hs => by
    by_cases h0 : s = []
    · subst h0; rw [lns_nil]; exact ⟨fun x hx => (by cases hx), Nat.le_refl _⟩
    · have hc := cut_len s h0
      obtain ⟨h1, h2⟩ := lns_small n (restOf s) (by omega) (small_rest hs h0)
      rw [lns_cons h0]
      refine ⟨fun x hx => ?_, by rw [List.length_cons]; omega⟩
      rcases List.mem_cons.1 hx with rfl | hx
      · exact small_line hs h0
      · exact h1 x hx
theorem s_refT (s : List UInt8) : SCall Tryd.prog 18 [.str s] (refT s) := by
  have hd : (refT s).data = true := by
    unfold refT
    split
    · rfl
    · exact meshV_data _
  refine scallR_loops rfl hd (by kernel_rfl) (runsR_seg kS (n := 1000) (hint := v3) (keep := keepS 55 [2, 5, 6, 7, 8]) (p := rp0_p) (boxes := []) hd ?_)
  have e := rp0 s
  unfold startS codeS at e
  erw [e]
  unfold rp0_t
  refine ⟨fun h => ?_, fun h => ?_⟩
  · unfold refT
    rw [if_pos (of_decide_eq_true h)]
    rfl
  · have h := of_decide_eq_false h
    have hs : small s = true := small_iff.2 (by omega)
    have ep : refT s = meshV (rL (lns s) 0 0 [] []) := by unfold refT; rw [if_neg h]
    rw [ep]
    obtain ⟨l1, l2⟩ := lns_small _ s (Nat.lt_succ_self _) hs
    refine ⟨hs, slotsS_len _ _, ?_⟩
    refine runsR_weak true [] (slots' := slQ 0 (lns s) 0) (boxes' := [some (.cells [.nilS, .nilS]), some (.cells [.row 2, .nilS]), some (.rows v3 [])])
      (slotsS_wk ⟨rfl, .same _, rfl, .same _, rfl, .same _, rfl, .same _, rfl, .same _, trivial⟩) ⟨List.not_mem_nil, .same _, List.not_mem_nil, .cells ⟨.nil rfl, .same _, trivial⟩, trivial⟩ ?_
    refine runsR_weak true [] (slots' := slQ 0 (lns s) 0) (boxes' := bxQ [] [])
      (slotsS_wk ⟨rfl, .same _, rfl, .same _, rfl, .same _, rfl, .same _, rfl, .same _, trivial⟩) ⟨List.not_mem_nil, .same _, List.not_mem_nil, .cells ⟨.same _, .nil rfl, trivial⟩, List.not_mem_nil, .same _, trivial⟩ ?_
    exact rp_loop (lns s) (by omega) (nthW_small l1) (lns s).length 0 0 [] [] (by omega) (by omega) (Nat.le_refl _) (Nat.le_refl _)
def fRefParse : Fact := ⟨18, fun args => match args with
  | [.str s] => some (.leaf (refT s))
  | _ => none⟩
theorem o_refParse : fRefParse.ok Tryd.prog := fun args t ht => by
  simp only [fRefParse] at ht
  split at ht
  · injection ht with ht; subst ht; exact s_refT _
  · cases ht
end Go.Proofs.YtlhkgeoahblffaaDoor
set_option linter.unusedSimpArgs false
set_option linter.unusedVariables false
set_option maxRecDepth 100000
namespace Go.Proofs.YtlhkgeoahblffaaDoor
open Go.Sx Go.RowKit Go.Lib

theorem bldInfo : (Tryd.prog.info? 51).map (·.size) = some 2 := by kernel_rfl
theorem bldLies : liesAt Tryd.prog Tryd.prog.depth 51 (2 / Tryd.prog.cellsOf 51) 0 51 1 = true := by kernel_rfl

set_option maxHeartbeats 4000000 in
theorem copy_used (b : Nat) (w : World) (h0 : w.cell? ⟨b, 0, none⟩ = some (.pointer (some ⟨b, 0, none⟩))) :
    Calls Tryd.prog 50 #[.pointer (some ⟨b, 0, none⟩)] w fun e w' => e = .returned (.tuple #[]) ∧ w' = w := by
  obtain ⟨j, hj, _⟩ := Option.map_eq_some_iff.1 bldInfo
  have mixed := mix
  go_enter Tryd.func50, Tryd.ntmps50
  go_wp2
  rw [Lib.run_neq_ptr_same w _ Tryd.underlying49 hj]
  go_wp2
  go_end0
  exact ⟨rfl, rfl⟩

set_option maxHeartbeats 4000000 in
theorem copy_fresh (b : Nat) (w : World) (h0 : w.cell? ⟨b, 0, none⟩ = some (.pointer none)) (hsh : w.shape? b = some (51, 2)) (hfz : w.frozen? ⟨b, 0, none⟩ = false) :
    Calls Tryd.prog 50 #[.pointer (some ⟨b, 0, none⟩)] w fun e w' => e = .returned (.tuple #[]) ∧ w' = w.setCell ⟨b, 0, none⟩ (.pointer (some ⟨b, 0, none⟩)) := by
  obtain ⟨j, hj, hjs⟩ := Option.map_eq_some_iff.1 bldInfo
  have mixed := mix
  go_enter Tryd.func50, Tryd.ntmps50
  go_wp2
  rw [Lib.run_to_unsafe w ⟨b, 0, none⟩ Tryd.underlying49 Tryd.underlying102 hj (by rw [hjs]; decide) hsh (Nat.zero_lt_succ 1)]
  simp only [Result.andThen]
  rw [Oper.upon_value]
  go_wp2
  rw [run_callFunc_extern Tryd.func70 (by kernel_rfl) (by kernel_rfl) (by kernel_rfl) (e := Extern.AbiNoEscape.same) (by kernel_rfl)]
  rw [Lib.run_noEscape]
  simp only [Result.andThen]
  rw [Oper.upon_value]
  go_wp2
  rw [Lib.run_from_unsafe w ⟨b, 0, none⟩ Tryd.underlying102 Tryd.underlying49 hj hsh bldLies]
  simp only [Result.andThen]
  rw [Oper.upon_value]
  go_wp2
  go_end0
  exact ⟨rfl, rfl⟩

/-! ### String -/

theorem same_u8 {e u : TypeId} (he : Tryd.prog.underlying e = some (.int .u8)) (hu : Tryd.prog.underlying u = some (.int .u8)) (d : Nat) : sameLayout Tryd.prog (d + 1) e u = true := by
  simp [sameLayout, he, hu]
theorem lies_u8 {e u : TypeId} (he : El8 e) (hu : Tryd.prog.underlying u = some (.int .u8)) (count n : Nat) (hn : n ≤ count) : liesAt Tryd.prog Tryd.prog.depth e count 0 u n = true := by
  have hd : Tryd.prog.depth = (2 * (Tryd.prog.types.size + Made.depth) + 1) + 1 := rfl
  rw [hd]
  simp only [liesAt, Bool.or_eq_true]
  left
  rw [hd]
  simp [rowAt, he.2, hn, same_u8 he.1 hu]

theorem run_string (w : World) (g : Nat) (arr : Array Value) (e : TypeId) (fr : Nat × Nat) (he : El8 e) (hg : w.heap[g]? = some (.cells arr e fr)) (l : List UInt8) (h0 : l ≠ []) (hn : l.length ≤ arr.size) (h63 : l.length ≤ 9223372036854775807)
    (hcell : ∀ j x, l[j]? = some x → w.cell? ((⟨g, 0, none⟩ : Addr).add j) = some (.int .u8 x.toNat)) :
    (Builtin.unsafeString_ #[83, 3] 9 #[.pointer (some ⟨g, 0, none⟩), .int .i64 l.length]).run Tryd.prog w = .ok (.string ⟨l.toArray⟩) (w.freeze ⟨g, 0, none⟩ l.length) := by
  have hl : l.length ≠ 0 := by simpa using h0
  have hsh : w.shape? g = some (e, arr.size) := by simp [World.shape?, hg]
  have hlb := run_loadBytes (P := Tryd.prog) w l ⟨g, 0, none⟩ .empty hcell
  have hlies := lies_u8 he Tryd.underlying5 (arr.size / Tryd.prog.cellsOf e) l.length (by rw [he.2]; simpa using hn)
  have h63' : ¬ (9223372036854775807 : Int) < (l.length : Int) := by omega
  have hdef : Builtin.unsafeString_ #[83, 3] 9 #[.pointer (some ⟨g, 0, none⟩), .int .i64 l.length] =
      (do
        let n ← asInt (.int .i64 l.length)
        if n < 0 then runtimePanic (.error "unsafe.String: len out of range")
        if n > IntKind.i64.max then unsupported (.unsafePointer "String: a length above the largest int")
        if n = 0 then pure (.string .empty)
        else if ← variablesAt ⟨g, 0, none⟩ (← elemOf 83) n.toNat then do
          let s ← loadBytes ⟨g, 0, none⟩ .empty n.toNat
          Go.freeze ⟨g, 0, none⟩ n.toNat
          pure (.string s)
        else unsupported (.unsafePointer "String: not so many bytes at ptr")) := rfl
  rw [hdef]
  have hmax : IntKind.i64.max = 9223372036854775807 := rfl
  have hneg : ¬ (l.length : Int) < 0 := by omega
  simp [asInt, asIntOf, hmax, h63', hneg, hl, variablesAt, hsh, elemOf, run_underlying Tryd.underlying83, hlies, hlb]

set_option maxHeartbeats 4000000 in
theorem string_walk (b g cap : Nat) (p : Value) (w : World) (arr : Array Value) (e : TypeId) (fr : Nat × Nat) (he : El8 e) (l : List UInt8) (h0 : l ≠ []) (hbk : w.heap[b]? = some (.cells #[p, .slice (some ⟨g, 0, none⟩) l.length cap] 51 (0, 0)))
    (hg : w.heap[g]? = some (.cells arr e fr)) (hn : l.length ≤ arr.size) (hc : l.length ≤ cap) (h63 : l.length ≤ 9223372036854775807) (hcell : ∀ j x, l[j]? = some x → w.cell? ((⟨g, 0, none⟩ : Addr).add j) = some (.int .u8 x.toNat)) :
    Calls Tryd.prog 31 #[.pointer (some ⟨b, 0, none⟩)] w fun ex w' => ex = .returned (.string ⟨l.toArray⟩) ∧ w' = w.drew.freeze ⟨g, 0, none⟩ l.length := by
  have hl0 : l.length ≠ 0 := by simpa using h0
  have c1 : w.drew.cell? ⟨b, 1, none⟩ = some (.slice (some ⟨g, 0, none⟩) l.length cap) := by
    have : w.drew.heap[b]? = some (.cells #[p, .slice (some ⟨g, 0, none⟩) l.length cap] 51 (0, 0)) := hbk
    rw [Lib.cell_of_heap this]; rfl
  have hSD : (Builtin.unsafeSliceData_ #[40] 83 #[.slice (some ⟨g, 0, none⟩) l.length cap]).run Tryd.prog w.drew = .ok (.pointer (some ⟨g, 0, none⟩)) w.drew :=
    Lib.run_unsafeSliceData_row _ _ _ _ _ _ (by omega)
  have hUS : (Builtin.unsafeString_ #[83, 3] 9 #[.pointer (some ⟨g, 0, none⟩), .int .i64 l.length]).run Tryd.prog w.drew = .ok (.string ⟨l.toArray⟩) (w.drew.freeze ⟨g, 0, none⟩ l.length) :=
    run_string w.drew g arr e fr he hg l h0 hn h63 hcell
  have mixed := mix
  clear hbk hg hn hc h63 hcell h0 hl0
  go_enter Tryd.func31, Tryd.ntmps31
  go_wp2
  go_region
  all_goals (go_wp2; go_ret; exact ⟨rfl, rfl⟩)

/-! ### Facts -/

/-- A box is given away: its block is no box any more, and may have turned. -/
theorem leave {w0 : World} {R0 : Nat → Prop} {ρ : Rho} {w w' : World} {m m' : Mem} (hm : MRel w0 R0 ρ w m) {id : Nat} {B : Box} (hg : m.get id = some B) (hsol : solid (ρ id) B) (h1 : MSet m id none m')
    (r3 : w'.os = w.os) (r4 : w'.tape = w.tape) (r5 : w'.output = w.output) (r6 : w'.heap.size = w.heap.size) (r7 : ∀ k, k ≠ (ρ id).1 → w'.heap[k]? = w.heap[k]?) : MRel w0 R0 ρ w' m' ∧ MExt w0 R0 ρ w m ρ w' m' := by
  have hd : ∀ k C, m'.get k = some C → k ≠ id ∧ m.get k = some C := fun k C hk => by
    rw [h1.1 k] at hk
    by_cases e0 : k = id
    · rw [if_pos e0] at hk; cases hk
    · rw [if_neg e0] at hk; exact ⟨e0, hk⟩
  have hblo := hm.lo id _ hg hsol
  have hro : ∀ b, RO w0 R0 ρ w m b → RO w0 R0 ρ w' m' b := fun b hb => by
    rcases hb with hb | ⟨g1, g2, g3⟩
    · exact .inl hb
    · exact .inr ⟨g1, by omega, fun k C hk hs' => g3 k C (hd k C hk).2 hs'⟩
  have hext : MExt w0 R0 ρ w m ρ w' m' := ⟨by rw [h1.2]; exact Nat.le_refl _, fun _ _ => rfl, fun b hb => ⟨hro b hb, r7 b (Ne.symm (hm.ro_ne hb hg hsol))⟩⟩
  refine ⟨⟨hm.below.trans ⟨r3, r4, r5, by omega, fun k hk => r7 k (by omega)⟩, fun k C hk => by rw [h1.2]; exact hm.lt k C (hd k C hk).2, fun k C hk hs' => hm.lo k C (hd k C hk).2 hs', fun k C hk hs' => by rw [r6]; exact hm.hi k C (hd k C hk).2 hs',
    fun k k' C C' hk hk' hs1 hs2 he0 => hm.inj k k' C C' (hd k C hk).2 (hd k' C' hk').2 hs1 hs2 he0, fun k C hk => ?_⟩, hext⟩
  exact BoxRel.mono hext C (fun hs' => r7 _ fun he0 => (hd k C hk).1 (hm.inj k id C _ (hd k C hk).2 hg hs' hsol he0)) (hm.box k C (hd k C hk).2)

def ub (s : List UInt8) : List Int := s.map fun b => (b.toNat : Int)
def ofU (l : List Int) : List UInt8 := l.map fun n => UInt8.ofNat n.toNat

def okU (l : List Int) : Bool := decide (ub (ofU l) = l)

noncomputable def wCopy : WFact := ⟨50, fun args m => match args with
  | [.ptr id off] => match Nat.beq off 0 with
    | true => match m.get id with
      | some (.obj t [a, b]) => match Nat.beq t 51 with
        | true => match a with
          | .nilP => some (m.set id (some (.obj 51 [.ptr id 0, b])) fun m => .leaf (.tuple [], m))
          | .ptr id' o => match Nat.beq id' id && Nat.beq o 0 with
            | true => some (.leaf (.tuple [], m))
            | false => none
          | _ => none
        | false => none
      | _ => none
    | false => none
  | _ => none⟩

theorem wCopy_ok : wCopy.ok Tryd.prog := by
  intro args m t ht
  simp only [wCopy] at ht
  split at ht
  · rename_i id off
    split at ht
    · rename_i h0
      have h0 := Nat.eq_of_beq_eq_true h0
      subst h0
      split at ht
      · rename_i t a b hg
        split at ht
        · rename_i h51
          have h51 := Nat.eq_of_beq_eq_true h51
          subst h51
          split at ht
          · injection ht with ht
            subst ht
            refine Mem.set_says fun m' h1 => ?_
            intro w0 R0 ρ w vs hm hvs
            obtain ⟨u, us, rfl, ⟨_, rfl⟩, hnil⟩ := hvs
            rw [show us = [] from hnil]
            obtain ⟨arr, q1, va, us1, e1, hva, vb, us2, e2, hvb, e3⟩ := hm.box id _ hg
            rw [show us2 = [] from e3] at e2
            rw [show va = _ from hva, e2] at e1
            have ea : arr = #[.pointer none, vb] := Array.ext' (by simpa using e1)
            subst ea
            dsimp only [wCopy]
            rw [callFunc_enter (P := Tryd.prog) Tryd.func50 (body := _) rfl (by kernel_rfl)]
            refine Calls.mono (copy_fresh (ρ id).1 w (by rw [Lib.cell_of_heap q1]; rfl) (by simp [World.shape?, q1]) (Lib.frozen_of_heap q1 0)) fun ex w' ⟨he, hw'⟩ => ⟨_, he, ?_⟩
            subst hw'
            obtain ⟨g1, g2⟩ := hm.setBox (w' := w.setCell ⟨(ρ id).1, 0, none⟩ (.pointer (some ⟨(ρ id).1, 0, none⟩))) hg trivial h1 rfl rfl rfl (by simp [World.setCell]) (fun k hk => by
                simp only [World.setCell, Array.getElem?_modify]
                rw [if_neg (fun h => hk h.symm)]) fun R e' => ⟨#[.pointer (some ⟨(ρ id).1, 0, none⟩), vb], by
                  simp only [World.setCell, Array.getElem?_modify, if_true, q1]
                  rfl, _, _, rfl, ⟨hm.lt id _ hg, rfl⟩, _, _, rfl, Rep.mono e' _ _ hvb, rfl⟩
            exact ⟨ρ, g1, g2, _, rfl, rfl⟩
          · rename_i id' o
            split at ht
            · rename_i hid
              rw [Bool.and_eq_true] at hid
              have e1 := Nat.eq_of_beq_eq_true hid.1
              have e2 := Nat.eq_of_beq_eq_true hid.2
              subst e1 e2
              injection ht with ht
              subst ht
              intro w0 R0 ρ w vs hm hvs
              obtain ⟨u, us, rfl, ⟨_, rfl⟩, hnil⟩ := hvs
              rw [show us = [] from hnil]
              obtain ⟨arr, q1, va, us1, e1, ⟨_, hva⟩, vb, us2, e2, hvb, e3⟩ := hm.box _ _ hg
              rw [show us2 = [] from e3] at e2
              rw [hva, e2] at e1
              have ea : arr = #[.pointer (some ⟨(ρ id').1, 0, none⟩), vb] := Array.ext' (by simpa using e1)
              subst ea
              dsimp only [wCopy]
              rw [callFunc_enter (P := Tryd.prog) Tryd.func50 (body := _) rfl (by kernel_rfl)]
              refine Calls.mono (copy_used (ρ id').1 w (by rw [Lib.cell_of_heap q1]; rfl)) fun ex w' ⟨he, hw'⟩ => ⟨_, he, ?_⟩
              subst hw'
              exact ⟨ρ, hm, Ext.refl _ _ _ _, _, rfl, rfl⟩
            · cases ht
          · cases ht
        · cases ht
      · cases ht
    · cases ht
  · cases ht

noncomputable def wStr : WFact := ⟨31, fun args m => match args with
  | [.ptr id off] => match Nat.beq off 0 with
    | true => match m.get id with
      | some (.obj t [_, b]) => match Nat.beq t 51 with
        | true => match b with
          | .row r => match m.get r with
            | some (.rows (.int .u8) l) => some (.req (okU l) (.req (decide (0 < l.length)) (.req (decide ((l.length : Int) ≤ 9223372036854775807)) (m.set r none fun m => .leaf (.str (ofU l), m)))))
            | _ => none
          | _ => none
        | false => none
      | _ => none
    | false => none
  | _ => none⟩

theorem ofU_length (l : List Int) : (ofU l).length = l.length := List.length_map _
theorem ofU_ub (s : List UInt8) : ofU (ub s) = s := by
  unfold ofU ub
  rw [List.map_map]
  have : ((fun n : Int => UInt8.ofNat n.toNat) ∘ fun b : UInt8 => (b.toNat : Int)) = id := by
    funext b
    simp
  rw [this, List.map_id]
theorem ub_append (s t : List UInt8) : ub (s ++ t) = ub s ++ ub t := List.map_append
theorem ub_length (s : List UInt8) : (ub s).length = s.length := List.length_map _

theorem repDL_ints {R : Nat → Prop} {w : World} {k : IntKind} : ∀ (l : List (Ty.int k).T) (vs : List Value), RepDL R w (.int k) l vs → vs = l.map fun n => .int k n
  | [], vs, h => h
  | x :: l, vs, h => by
    obtain ⟨v1, v2, rfl, h1, h2⟩ := h
    rw [show v1 = [Value.int k x] from h1, repDL_ints l v2 h2]
    rfl

noncomputable def strT (l : List Int) (r : Nat) (m : Mem) : Tree (SV × Mem) := .req (okU l) (.req (decide (0 < l.length)) (.req (decide ((l.length : Int) ≤ 9223372036854775807)) (m.set r none fun m => .leaf (.str (ofU l), m))))
theorem str_says (m : Mem) (id r : Nat) (a : SV) (l : List Int) (hg : m.get id = some (.obj 51 [a, .row r])) (hr : m.get r = some (.rows (.int .u8) l)) : (strT l r m).says (WCall Tryd.prog 31 [.ptr id 0] m) := by
  intro hl hp h63
  have hl : ub (ofU l) = l := of_decide_eq_true hl
  have hp := of_decide_eq_true hp
  have h63 := of_decide_eq_true h63
  refine Mem.set_says fun m' h1 => ?_
  intro w0 R0 ρ w vs hm hvs
  obtain ⟨u, us, rfl, ⟨_, rfl⟩, hnil⟩ := hvs
  rw [show us = [] from hnil]
  obtain ⟨arr, q1, va, us1, e1, hva, vb, us2, e2, ⟨_, sa, hvb, hsa⟩, e3⟩ := hm.box id _ hg
  rw [show us2 = [] from e3] at e2
  obtain ⟨b1, b2, _⟩ := hm.box r _ hr
  have b1 : l.length = (ρ r).2.1 := b1
  have b2 : l.length ≤ (ρ r).2.2 := b2
  have hc0 : 0 < (ρ r).2.2 := by omega
  rw [e2, hvb, hsa hc0, ← b1] at e1
  have ea : arr = #[va, .slice (some ⟨(ρ r).1, 0, none⟩) l.length (ρ r).2.2] := Array.ext' (by simpa using e1)
  subst ea
  obtain ⟨arr, e, fr, k1, ⟨k2, kel⟩, k3, k4⟩ := rows_repDL hm hr hc0
  have k3 : arr.size = (ρ r).2.2 * 1 := k3
  have k4 := repDL_ints _ _ k4
  have k4 : arr.toList.take (l.length * 1) = l.map fun n => .int .u8 n := k4
  rw [callFunc_enter (P := Tryd.prog) Tryd.func31 (body := _) rfl (by kernel_rfl)]
  have hlo := ofU_length l
  refine Calls.mono (string_walk (ρ id).1 (ρ r).1 (ρ r).2.2 va w arr e fr (kel rfl) (ofU l) (fun h => by rw [h] at hlo; simp at hlo; omega) (by rw [hlo]; exact q1) k1 (by omega) (by omega) (by omega) fun j x hx => ?_) fun ex w' ⟨he, hw'⟩ => ⟨_, he, ?_⟩
  · rw [Addr.add_lit, cell_of_row w (ρ r).1 _ arr e fr k1]
    have hj : j < l.length := by rw [← hlo]; exact (List.getElem?_eq_some_iff.1 hx).1
    have e4 : (arr.toList.take (l.length * 1))[j]? = (l.map fun n => Value.int .u8 n)[j]? := by rw [k4]
    rw [List.getElem?_take, if_pos (by omega), List.getElem?_map] at e4
    have e5 : (ub (ofU l))[j]? = l[j]? := by rw [hl]
    rw [← e5] at e4
    unfold ub at e4
    rw [List.getElem?_map, hx] at e4
    simpa using e4
  · subst hw'
    have hmod : ∀ k, k ≠ (ρ r).1 → (w.drew.freeze ⟨(ρ r).1, 0, none⟩ (ofU l).length).heap[k]? = w.heap[k]? := fun k hk => by
      unfold World.freeze
      split
      · rfl
      · simp only [Array.getElem?_modify]
        rw [if_neg (fun h => hk h.symm)]
        rfl
    have hfz : ∀ {α : Type} (f : World → α), (∀ h : Array Obj, f { w.drew with heap := h } = f w) → f (w.drew.freeze ⟨(ρ r).1, 0, none⟩ (ofU l).length) = f w := fun f hf => by
      unfold World.freeze
      split
      · exact hf w.drew.heap
      · exact hf _
    obtain ⟨g1, g2⟩ := leave (w' := w.drew.freeze ⟨(ρ r).1, 0, none⟩ (ofU l).length) hm hr hc0 h1 (hfz (·.os) fun _ => rfl) (hfz (·.tape) fun _ => rfl) (hfz (·.output) fun _ => rfl) (by
      unfold World.freeze
      split
      · rfl
      · simp) hmod
    exact ⟨ρ, g1, g2, rfl⟩
theorem wStr_ok : wStr.ok Tryd.prog := by
  intro args m t ht
  simp only [wStr] at ht
  split at ht
  · rename_i id off
    split at ht
    · rename_i h0
      have h0 := Nat.eq_of_beq_eq_true h0
      subst h0
      split at ht
      · rename_i t a b hg
        split at ht
        · rename_i h51
          have h51 := Nat.eq_of_beq_eq_true h51
          subst h51
          split at ht
          · split at ht
            · rename_i l hr
              injection ht with ht
              subst ht
              exact str_says m id _ a l hg hr
            · cases ht
          · cases ht
        · cases ht
      · cases ht
    · cases ht
  · cases ht
end Go.Proofs.YtlhkgeoahblffaaDoor
set_option linter.unusedSimpArgs false
set_option linter.unusedVariables false
set_option maxRecDepth 100000
namespace Go.Proofs.YtlhkgeoahblffaaDoor
open Go.Sx
/-- A triple by its place. -/
def nth3 (l : List (Int × Int × Int)) (i : Int) : Int × Int × Int := l.getD i.toNat v3.dflt
/-- A vector within the bounds. -/
def inR (v : Int × Int × Int) : Bool := decide (v.1 ≥ -65536) && (decide (v.1 ≤ 65536) && (decide (v.2.1 ≥ -65536) && (decide (v.2.1 ≤ 65536) && (decide (v.2.2 ≥ -65536) && decide (v.2.2 ≤ 65536)))))
theorem s_valid (x y z : Int) : SCall Tryd.prog 41 [.agg [I64 x, I64 y, I64 z]] (.bool (inR (x, y, z))) :=
  scall_v mix [] trivial 1000 (.fork (.lit (.lit (.lit (.lit (.fork (.lit (.lit (.lit (.lit (.lit (.fork (.lit (.lit (.lit (.lit (.fork (.lit (.lit (.lit (.lit (.lit (.fork (.lit (.lit (.lit (.lit (.all))))) (.lit (.lit (.lit (.lit (.all))))))))))) (.lit (.lit (.lit (.lit (.lit (.lit (.lit (.lit (.lit (.lit (.all)))))))))))))))) (.lit (.lit (.lit (.lit (.lit (.lit (.lit (.lit (.lit (.lit (.lit (.lit (.lit (.lit (.lit (.all)))))))))))))))))))))) (.lit (.lit (.lit (.lit (.lit (.lit (.lit (.lit (.lit (.lit (.lit (.lit (.lit (.lit (.lit (.lit (.lit (.lit (.lit (.lit (.lit (.all))))))))))))))))))))))))))) (.lit (.lit (.lit (.lit (.lit (.lit (.lit (.lit (.lit (.lit (.lit (.lit (.lit (.lit (.lit (.lit (.lit (.lit (.lit (.lit (.lit (.lit (.lit (.lit (.lit (.lit (.all))))))))))))))))))))))))))))
   (t := .node (decide (x ≥ -65536))
 (.node (decide (x ≤ 65536))
  (.node (decide (y ≥ -65536))
   (.node (decide (y ≤ 65536))
    (.node (decide (z ≥ -65536))
     (.leaf (SV.bool (decide (z ≤ 65536))))
     (.leaf (SV.bool false)))
    (.leaf (SV.bool false)))
   (.leaf (SV.bool false)))
  (.leaf (SV.bool false)))
 (.leaf (SV.bool false)))
   (by kernel_rfl) (by simp only [Tree.holds, I64, inR]; grind) (by kernel_rfl) (by kernel_rfl)
theorem s_validR (x y z : Int) : SCall Tryd.prog 52 [.agg [I64 x, I64 y, I64 z]] (.bool (inR (x, y, z))) :=
  scall_v mix [] trivial 1000 (.fork (.lit (.lit (.lit (.lit (.fork (.lit (.lit (.lit (.lit (.lit (.fork (.lit (.lit (.lit (.lit (.fork (.lit (.lit (.lit (.lit (.lit (.fork (.lit (.lit (.lit (.lit (.all))))) (.lit (.lit (.lit (.lit (.all))))))))))) (.lit (.lit (.lit (.lit (.lit (.lit (.lit (.lit (.lit (.lit (.all)))))))))))))))) (.lit (.lit (.lit (.lit (.lit (.lit (.lit (.lit (.lit (.lit (.lit (.lit (.lit (.lit (.lit (.all)))))))))))))))))))))) (.lit (.lit (.lit (.lit (.lit (.lit (.lit (.lit (.lit (.lit (.lit (.lit (.lit (.lit (.lit (.lit (.lit (.lit (.lit (.lit (.lit (.all))))))))))))))))))))))))))) (.lit (.lit (.lit (.lit (.lit (.lit (.lit (.lit (.lit (.lit (.lit (.lit (.lit (.lit (.lit (.lit (.lit (.lit (.lit (.lit (.lit (.lit (.lit (.lit (.lit (.lit (.all))))))))))))))))))))))))))))
   (t := .node (decide (x ≥ -65536))
 (.node (decide (x ≤ 65536))
  (.node (decide (y ≥ -65536))
   (.node (decide (y ≤ 65536))
    (.node (decide (z ≥ -65536))
     (.leaf (SV.bool (decide (z ≤ 65536))))
     (.leaf (SV.bool false)))
    (.leaf (SV.bool false)))
   (.leaf (SV.bool false)))
  (.leaf (SV.bool false)))
 (.leaf (SV.bool false)))
   (by kernel_rfl) (by simp only [Tree.holds, I64, inR]; grind) (by kernel_rfl) (by kernel_rfl)
def fValid : Fact := ⟨41, fun args => match args with
  | [.agg [.int .i64 x, .int .i64 y, .int .i64 z]] => some (.leaf (.bool (inR (x, y, z))))
  | _ => none⟩
theorem o_valid : fValid.ok Tryd.prog := fun args t ht => by
  simp only [fValid] at ht
  split at ht
  · injection ht with ht; subst ht; exact s_valid _ _ _
  · cases ht
def fValidR : Fact := ⟨52, fun args => match args with
  | [.agg [.int .i64 x, .int .i64 y, .int .i64 z]] => some (.leaf (.bool (inR (x, y, z))))
  | _ => none⟩
theorem o_validR : fValidR.ok Tryd.prog := fun args t ht => by
  simp only [fValidR] at ht
  split at ht
  · injection ht with ht; subst ht; exact s_validR _ _ _
  · cases ht
def ck0_p : Plan := .fork (.lit (.lit (.lit (.lit (.lit (.all)))))) (.lit (.lit (.lit (.lit (.fork (.all) (.all))))))
noncomputable def ck0_t (us ts : List (Int × Int × Int)) : Tree Stop :=
   .node (decide ((us.length : Int) > 4096))
 (.leaf (Stop.done (I64 2)))
 (.node (decide ((ts.length : Int) > 4096))
  (.leaf (Stop.done (I64 2)))
  (.leaf (Stop.at (loopOf Tryd.prog 20 0) 57 (slotsS 57 [(1, SV.ptr 0 0), (3, I64 (us.length : Int)), (20, SV.list v3 us), (21, I64 (us.length : Int)), (22, I64 0), (31, SV.undef), (32, SV.undef), (33, SV.undef)]) [some (Box.cells [SV.list v3 us, SV.list v3 ts])])))
theorem ck0 (us ts : List (Int × Int × Int)) : segR (Env.of Tryd.prog (sumOf [fValid])) 1000 (fnOf Tryd.prog 20) .unit (keepS 57 [1,3,20,21,22,31,32,33]) (codeS Tryd.prog 20) ck0_p (startS Tryd.prog 20 [.agg [.list v3 us, .list v3 ts]]) [] = ck0_t us ts := by kernel_rfl
def ck1_p : Plan := .fork (.fork (.all) (.all)) (.all)
noncomputable def ck1_t (us ts : List (Int × Int × Int)) (i : Int) : Tree Stop :=
   .node (decide (i < (us.length : Int)))
 (.req (decide (0 ≤ i) && decide (i < (us.length : Int))) (.node (!inR ((nth3 us i).fst, (nth3 us i).snd))
   (.leaf (Stop.done (I64 8)))
   (.leaf (Stop.at (loopOf Tryd.prog 20 0) 57 (slotsS 57 [(1, SV.ptr 0 0), (3, I64 (us.length : Int)), (20, SV.list v3 us), (21, I64 (us.length : Int)), (22, I64 (IntKind.i64.wrap (i + 1))), (31, SV.undef), (32, SV.undef), (33, SV.undef)]) [some (Box.cells [SV.list v3 us, SV.list v3 ts])]))))
 (.leaf (Stop.at (loopOf Tryd.prog 20 1) 57 (slotsS 57 [(1, SV.ptr 0 0), (3, I64 (us.length : Int)), (20, SV.list v3 us), (21, I64 (us.length : Int)), (22, I64 i), (31, SV.list v3 ts), (32, I64 (ts.length : Int)), (33, I64 0)]) [some (Box.cells [SV.list v3 us, SV.list v3 ts])]))
theorem ck1 (us ts : List (Int × Int × Int)) (i : Int) : segR (Env.of Tryd.prog (sumOf [fValid])) 1000 (fnOf Tryd.prog 20) .unit (keepS 57 [1,3,20,21,22,31,32,33]) (loopOf Tryd.prog 20 0) ck1_p (slotsS 57 [(1, .ptr 0 0), (3, I64 (us.length : Int)), (20, .list v3 us), (21, I64 (us.length : Int)), (22, I64 i), (31, .undef), (32, .undef), (33, .undef)]) [some (.cells [.list v3 us, .list v3 ts])] = ck1_t us ts i := by kernel_rfl
def ck2_p : Plan := .fork (.fork (.lit (.lit (.lit (.lit (.lit (.lit (.lit (.lit (.lit (.lit (.all))))))))))) (.lit (.lit (.lit (.lit (.lit (.lit (.lit (.lit (.lit (.fork (.all) (.all)))))))))))) (.all)
noncomputable def ck2_t (us ts : List (Int × Int × Int)) (j i : Int) : Tree Stop :=
   .node (decide (i < (ts.length : Int)))
 (.req (decide (0 ≤ i) && decide (i < (ts.length : Int))) (.node (decide ((if (nth3 ts i).snd.snd < if (nth3 ts i).snd.fst < (nth3 ts i).fst then (nth3 ts i).snd.fst else (nth3 ts i).fst then (nth3 ts i).snd.snd else if (nth3 ts i).snd.fst < (nth3 ts i).fst then (nth3 ts i).snd.fst else (nth3 ts i).fst) < 0))
   (.leaf (Stop.done (I64 1)))
   (.node (decide ((if (nth3 ts i).snd.snd > if (nth3 ts i).snd.fst > (nth3 ts i).fst then (nth3 ts i).snd.fst else (nth3 ts i).fst then (nth3 ts i).snd.snd else if (nth3 ts i).snd.fst > (nth3 ts i).fst then (nth3 ts i).snd.fst else (nth3 ts i).fst) ≥ (us.length : Int)))
    (.leaf (Stop.done (I64 1)))
    (.leaf (Stop.at (loopOf Tryd.prog 20 1) 57 (slotsS 57 [(1, SV.ptr 0 0), (3, I64 (us.length : Int)), (20, SV.list v3 us), (21, I64 (us.length : Int)), (22, I64 j), (31, SV.list v3 ts), (32, I64 (ts.length : Int)), (33, I64 (IntKind.i64.wrap (i + 1)))]) [some (Box.cells [SV.list v3 us, SV.list v3 ts])])))))
 (.leaf (Stop.done (I64 0)))
theorem ck2 (us ts : List (Int × Int × Int)) (j i : Int) : segR (Env.of Tryd.prog (sumOf [fValid])) 1000 (fnOf Tryd.prog 20) .unit (keepS 57 [1,3,20,21,22,31,32,33]) (loopOf Tryd.prog 20 1) ck2_p (slotsS 57 [(1, .ptr 0 0), (3, I64 (us.length : Int)), (20, .list v3 us), (21, I64 (us.length : Int)), (22, I64 j), (31, .list v3 ts), (32, I64 (ts.length : Int)), (33, I64 i)]) [some (.cells [.list v3 us, .list v3 ts])] = ck2_t us ts j i := by kernel_rfl
def cl0_p : Plan := .fork (.lit (.lit (.lit (.lit (.lit (.all)))))) (.lit (.lit (.lit (.lit (.fork (.all) (.all))))))
noncomputable def cl0_t (us ts : List (Int × Int × Int)) : Tree Stop :=
   .node (decide ((us.length : Int) > 4096))
 (.leaf (Stop.done (I64 2)))
 (.node (decide ((ts.length : Int) > 4096))
  (.leaf (Stop.done (I64 2)))
  (.leaf (Stop.at (loopOf Tryd.prog 32 0) 71 (slotsS 71 [(1, SV.ptr 0 0), (5, SV.undef), (19, SV.list v3 us), (20, I64 (us.length : Int)), (21, I64 0), (33, SV.undef), (34, SV.undef), (35, SV.undef)]) [some (Box.cells [SV.list v3 us, SV.list v3 ts])])))
theorem cl0 (us ts : List (Int × Int × Int)) : segR (Env.of Tryd.prog (sumOf [fValidR])) 1000 (fnOf Tryd.prog 32) .unit (keepS 71 [1,5,19,20,21,33,34,35]) (codeS Tryd.prog 32) cl0_p (startS Tryd.prog 32 [.agg [.list v3 us, .list v3 ts]]) [] = cl0_t us ts := by kernel_rfl
def cl1_p : Plan := .fork (.fork (.all) (.all)) (.all)
noncomputable def cl1_t (us ts : List (Int × Int × Int)) (i : Int) : Tree Stop :=
   .node (decide (i < (us.length : Int)))
 (.req (decide (0 ≤ i) && decide (i < (us.length : Int))) (.node (!inR ((nth3 us i).fst, (nth3 us i).snd))
   (.leaf (Stop.done (I64 8)))
   (.leaf (Stop.at (loopOf Tryd.prog 32 0) 71 (slotsS 71 [(1, SV.ptr 0 0), (5, SV.undef), (19, SV.list v3 us), (20, I64 (us.length : Int)), (21, I64 (IntKind.i64.wrap (i + 1))), (33, SV.undef), (34, SV.undef), (35, SV.undef)]) [some (Box.cells [SV.list v3 us, SV.list v3 ts])]))))
 (.leaf (Stop.at (loopOf Tryd.prog 32 1) 71 (slotsS 71 [(1, SV.ptr 0 0), (5, I64 (us.length : Int)), (19, SV.list v3 us), (20, I64 (us.length : Int)), (21, I64 i), (33, SV.list v3 ts), (34, I64 (ts.length : Int)), (35, I64 0)]) [some (Box.cells [SV.list v3 us, SV.list v3 ts])]))
theorem cl1 (us ts : List (Int × Int × Int)) (i : Int) : segR (Env.of Tryd.prog (sumOf [fValidR])) 1000 (fnOf Tryd.prog 32) .unit (keepS 71 [1,5,19,20,21,33,34,35]) (loopOf Tryd.prog 32 0) cl1_p (slotsS 71 [(1, .ptr 0 0), (5, .undef), (19, .list v3 us), (20, I64 (us.length : Int)), (21, I64 i), (33, .undef), (34, .undef), (35, .undef)]) [some (.cells [.list v3 us, .list v3 ts])] = cl1_t us ts i := by kernel_rfl
def cl2_p : Plan := .fork (.fork (.lit (.lit (.lit (.lit (.lit (.lit (.lit (.lit (.lit (.lit (.lit (.lit (.lit (.lit (.lit (.lit (.lit (.lit (.lit (.lit (.lit (.lit (.lit (.all)))))))))))))))))))))))) (.lit (.lit (.lit (.lit (.fork (.lit (.lit (.lit (.lit (.lit (.lit (.lit (.lit (.lit (.lit (.lit (.lit (.lit (.lit (.lit (.lit (.lit (.lit (.all))))))))))))))))))) (.lit (.lit (.lit (.fork (.lit (.lit (.lit (.lit (.lit (.lit (.lit (.lit (.lit (.lit (.lit (.lit (.lit (.lit (.all))))))))))))))) (.lit (.lit (.lit (.lit (.fork (.lit (.lit (.lit (.lit (.lit (.lit (.lit (.lit (.lit (.all)))))))))) (.lit (.lit (.lit (.fork (.lit (.lit (.lit (.lit (.lit (.all)))))) (.lit (.lit (.lit (.lit (.fork (.all) (.all))))))))))))))))))))))))) (.all)
noncomputable def cl2_t (us ts : List (Int × Int × Int)) (j i : Int) : Tree Stop :=
   .node (decide (i < (ts.length : Int)))
 (.req (decide (0 ≤ i) && decide (i < (ts.length : Int))) (.node (decide ((nth3 ts i).fst < 0))
   (.leaf (Stop.done (I64 1)))
   (.node (decide ((nth3 ts i).fst ≥ (us.length : Int)))
    (.leaf (Stop.done (I64 1)))
    (.node (decide ((nth3 ts i).snd.fst < 0))
     (.leaf (Stop.done (I64 1)))
     (.node (decide ((nth3 ts i).snd.fst ≥ (us.length : Int)))
      (.leaf (Stop.done (I64 1)))
      (.node (decide ((nth3 ts i).snd.snd < 0))
       (.leaf (Stop.done (I64 1)))
       (.node (decide ((nth3 ts i).snd.snd ≥ (us.length : Int)))
        (.leaf (Stop.done (I64 1)))
        (.leaf (Stop.at (loopOf Tryd.prog 32 1) 71 (slotsS 71 [(1, SV.ptr 0 0), (5, I64 (us.length : Int)), (19, SV.list v3 us), (20, I64 (us.length : Int)), (21, I64 j), (33, SV.list v3 ts), (34, I64 (ts.length : Int)), (35, I64 (IntKind.i64.wrap (i + 1)))]) [some (Box.cells [SV.list v3 us, SV.list v3 ts])])))))))))
 (.leaf (Stop.done (I64 0)))
theorem cl2 (us ts : List (Int × Int × Int)) (j i : Int) : segR (Env.of Tryd.prog (sumOf [fValidR])) 1000 (fnOf Tryd.prog 32) .unit (keepS 71 [1,5,19,20,21,33,34,35]) (loopOf Tryd.prog 32 1) cl2_p (slotsS 71 [(1, .ptr 0 0), (5, I64 (us.length : Int)), (19, .list v3 us), (20, I64 (us.length : Int)), (21, I64 j), (33, .list v3 ts), (34, I64 (ts.length : Int)), (35, I64 i)]) [some (.cells [.list v3 us, .list v3 ts])] = cl2_t us ts j i := by kernel_rfl
end Go.Proofs.YtlhkgeoahblffaaDoor
set_option linter.unusedSimpArgs false
set_option linter.unusedVariables false
set_option maxRecDepth 100000
namespace Go.Proofs.YtlhkgeoahblffaaDoor
open Go.Sx

/-! ### What it computes -/

/-- A triangle of three of so many vertices. -/
def okT (n : Int) (t : T3) : Bool := (decide (0 ≤ t.1) && decide (t.1 < n)) && ((decide (0 ≤ t.2.1) && decide (t.2.1 < n)) && (decide (0 ≤ t.2.2) && decide (t.2.2 < n)))
theorem okT_iff {n : Int} {t : T3} : okT n t = true ↔ (0 ≤ t.1 ∧ t.1 < n) ∧ (0 ≤ t.2.1 ∧ t.2.1 < n) ∧ 0 ≤ t.2.2 ∧ t.2.2 < n := by simp [okT]
def eT (n : Int) (l : List T3) : Int := if l.all (okT n) = true then 0 else 1
def eV (n : Int) (l ts : List T3) : Int := if l.all inR = true then eT n ts else 8
def chk (us ts : List T3) : Int := if 4096 < (us.length : Int) ∨ 4096 < (ts.length : Int) then 2 else eV us.length us ts

theorem drop3 {l : List T3} {i : Nat} (h : i < l.length) : l.drop i = nth3 l (i : Int) :: l.drop (i + 1) := by
  have e : nth3 l (i : Int) = l[i] := by
    show List.getD (α := T3) l i (0, 0, 0) = _
    rw [List.getD_eq_getElem?_getD, List.getElem?_eq_getElem h]; rfl
  rw [List.drop_eq_getElem_cons h, e]
theorem eT_step {n : Int} {l : List T3} {i : Nat} (h : i < l.length) : eT n (l.drop i) = if okT n (nth3 l (i : Int)) = true then eT n (l.drop (i + 1)) else 1 := by
  unfold eT
  rw [drop3 h, List.all_cons]
  cases okT n (nth3 l (i : Int)) <;> rfl
theorem eT_end {n : Int} {l : List T3} : eT n (l.drop l.length) = 0 := by rw [List.drop_length]; rfl
theorem eV_step {n : Int} {l ts : List T3} {i : Nat} (h : i < l.length) : eV n (l.drop i) ts = if inR (nth3 l (i : Int)) = true then eV n (l.drop (i + 1)) ts else 8 := by
  unfold eV
  rw [drop3 h, List.all_cons]
  cases inR (nth3 l (i : Int)) <;> rfl
theorem eV_end {n : Int} {l ts : List T3} : eV n (l.drop l.length) ts = eT n ts := by rw [List.drop_length]; rfl

/-! ### The program's -/

theorem kV : Known Tryd.prog (Env.of Tryd.prog (sumOf [fValid])) := hK (l := [fValid]) ⟨o_valid, trivial⟩
theorem kVR : Known Tryd.prog (Env.of Tryd.prog (sumOf [fValidR])) := hK (l := [fValidR]) ⟨o_validR, trivial⟩

theorem ck2_loop (us ts : List T3) (j : Int) (ht : ts.length ≤ 4096) : ∀ (n i : Nat), i + n = ts.length → RunsR Tryd.prog (fnOf Tryd.prog 20) (I64 (eT us.length (ts.drop i))) (loopOf Tryd.prog 20 1)
    (slotsS 57 [(1, .ptr 0 0), (3, I64 (us.length : Int)), (20, .list v3 us), (21, I64 (us.length : Int)), (22, I64 j), (31, .list v3 ts), (32, I64 (ts.length : Int)), (33, I64 (i : Int))]) [some (.cells [.list v3 us, .list v3 ts])]
  | n, i, hi => by
    refine runsR_seg kV (n := 1000) (hint := .unit) (keep := keepS 57 [1,3,20,21,22,31,32,33]) (p := ck2_p) rfl ?_
    erw [ck2 us ts j (i : Int)]
    unfold ck2_t
    match n, hi with
    | 0, hi =>
      have hi : i = ts.length := hi
      subst hi
      rw [eT_end]
      exact ⟨fun h => absurd (of_decide_eq_true h) (by omega), fun _ => rfl⟩
    | n + 1, hi =>
      have hl : i < ts.length := by omega
      rw [eT_step hl]
      refine ⟨fun _ => ⟨by simp; omega, fun h => ?_, fun h => ⟨fun h1 => ?_, fun h1 => ⟨slotsS_len _ _, ?_⟩⟩⟩, fun h => absurd (of_decide_eq_false h) (by omega)⟩
      · have h := of_decide_eq_true h
        rw [if_neg]
        · rfl
        · rw [okT_iff]; intro hc; revert h; split <;> split <;> omega
      · have h1 := of_decide_eq_true h1
        rw [if_neg]
        · rfl
        · rw [okT_iff]; intro hc; revert h1; split <;> split <;> omega
      · have h := of_decide_eq_false h
        have h1 := of_decide_eq_false h1
        have hok : okT (us.length : Int) (nth3 ts (i : Int)) = true := by
          rw [okT_iff]
          revert h h1
          generalize nth3 ts (i : Int) = t
          intro h h1
          repeat' split at h
          all_goals repeat' split at h1
          all_goals omega
        rw [if_pos hok, wr1 (by omega)]
        exact ck2_loop us ts j ht n (i + 1) (by omega)
theorem ck1_loop (us ts : List T3) (hu : us.length ≤ 4096) (ht : ts.length ≤ 4096) : ∀ (n i : Nat), i + n = us.length → RunsR Tryd.prog (fnOf Tryd.prog 20) (I64 (eV us.length (us.drop i) ts)) (loopOf Tryd.prog 20 0)
    (slotsS 57 [(1, .ptr 0 0), (3, I64 (us.length : Int)), (20, .list v3 us), (21, I64 (us.length : Int)), (22, I64 (i : Int)), (31, .undef), (32, .undef), (33, .undef)]) [some (.cells [.list v3 us, .list v3 ts])]
  | n, i, hi => by
    refine runsR_seg kV (n := 1000) (hint := .unit) (keep := keepS 57 [1,3,20,21,22,31,32,33]) (p := ck1_p) rfl ?_
    erw [ck1 us ts (i : Int)]
    unfold ck1_t
    match n, hi with
    | 0, hi =>
      have hi : i = us.length := hi
      subst hi
      rw [eV_end]
      refine ⟨fun h => absurd (of_decide_eq_true h) (by omega), fun _ => ⟨slotsS_len _ _, ?_⟩⟩
      exact ck2_loop us ts _ ht ts.length 0 (by omega)
    | n + 1, hi =>
      have hl : i < us.length := by omega
      rw [eV_step hl]
      refine ⟨fun _ => ⟨by simp; omega, fun h => ?_, fun h => ⟨slotsS_len _ _, ?_⟩⟩, fun h => absurd (of_decide_eq_false h) (by omega)⟩
      · have h : (!inR (nth3 us (i : Int))) = true := h
        rw [if_neg (by simpa using h)]; rfl
      · have h : (!inR (nth3 us (i : Int))) = false := h
        rw [if_pos (by simpa using h), wr1 (by omega)]
        exact ck1_loop us ts hu ht n (i + 1) (by omega)
theorem s_check (us ts : List T3) : SCall Tryd.prog 20 [.agg [.list v3 us, .list v3 ts]] (I64 (chk us ts)) := by
  refine scallR_loops rfl rfl (by kernel_rfl) (runsR_seg kV (n := 1000) (hint := .unit) (keep := keepS 57 [1,3,20,21,22,31,32,33]) (p := ck0_p) (boxes := []) rfl ?_)
  have e := ck0 us ts
  unfold startS codeS at e
  erw [e]
  unfold ck0_t chk
  refine ⟨fun h => ?_, fun h => ⟨fun h1 => ?_, fun h1 => ⟨slotsS_len _ _, ?_⟩⟩⟩
  · rw [if_pos (.inl (of_decide_eq_true h))]; rfl
  · rw [if_pos (.inr (of_decide_eq_true h1))]; rfl
  · have h := of_decide_eq_false h
    have h1 := of_decide_eq_false h1
    rw [if_neg (by omega)]
    exact ck1_loop us ts (by omega) (by omega) us.length 0 (by omega)

/-! ### The reference's -/

theorem cl2_loop (us ts : List T3) (j : Int) (ht : ts.length ≤ 4096) : ∀ (n i : Nat), i + n = ts.length → RunsR Tryd.prog (fnOf Tryd.prog 32) (I64 (eT us.length (ts.drop i))) (loopOf Tryd.prog 32 1)
    (slotsS 71 [(1, .ptr 0 0), (5, I64 (us.length : Int)), (19, .list v3 us), (20, I64 (us.length : Int)), (21, I64 j), (33, .list v3 ts), (34, I64 (ts.length : Int)), (35, I64 (i : Int))]) [some (.cells [.list v3 us, .list v3 ts])]
  | n, i, hi => by
    refine runsR_seg kVR (n := 1000) (hint := .unit) (keep := keepS 71 [1,5,19,20,21,33,34,35]) (p := cl2_p) rfl ?_
    erw [cl2 us ts j (i : Int)]
    unfold cl2_t
    match n, hi with
    | 0, hi =>
      have hi : i = ts.length := hi
      subst hi
      rw [eT_end]
      exact ⟨fun h => absurd (of_decide_eq_true h) (by omega), fun _ => rfl⟩
    | n + 1, hi =>
      have hl : i < ts.length := by omega
      rw [eT_step hl]
      have bad : ¬ okT (us.length : Int) (nth3 ts (i : Int)) = true → I64 1 = I64 (if okT (us.length : Int) (nth3 ts (i : Int)) = true then eT us.length (ts.drop (i + 1)) else 1) := fun h => by rw [if_neg h]
      refine ⟨fun _ => ⟨by simp; omega, fun h => bad ?_, fun h1 => ⟨fun h => bad ?_, fun h2 => ⟨fun h => bad ?_, fun h3 => ⟨fun h => bad ?_, fun h4 => ⟨fun h => bad ?_, fun h5 => ⟨fun h => bad ?_, fun h6 => ⟨slotsS_len _ _, ?_⟩⟩⟩⟩⟩⟩⟩, fun h => absurd (of_decide_eq_false h) (by omega)⟩
      iterate 6 (have h := of_decide_eq_true h; rw [okT_iff]; omega)
      rw [if_pos (by rw [okT_iff]; simp only [decide_eq_false_iff_not] at h1 h2 h3 h4 h5 h6; omega), wr1 (by omega)]
      exact cl2_loop us ts j ht n (i + 1) (by omega)
theorem cl1_loop (us ts : List T3) (hu : us.length ≤ 4096) (ht : ts.length ≤ 4096) : ∀ (n i : Nat), i + n = us.length → RunsR Tryd.prog (fnOf Tryd.prog 32) (I64 (eV us.length (us.drop i) ts)) (loopOf Tryd.prog 32 0)
    (slotsS 71 [(1, .ptr 0 0), (5, .undef), (19, .list v3 us), (20, I64 (us.length : Int)), (21, I64 (i : Int)), (33, .undef), (34, .undef), (35, .undef)]) [some (.cells [.list v3 us, .list v3 ts])]
  | n, i, hi => by
    refine runsR_seg kVR (n := 1000) (hint := .unit) (keep := keepS 71 [1,5,19,20,21,33,34,35]) (p := cl1_p) rfl ?_
    erw [cl1 us ts (i : Int)]
    unfold cl1_t
    match n, hi with
    | 0, hi =>
      have hi : i = us.length := hi
      subst hi
      rw [eV_end]
      refine ⟨fun h => absurd (of_decide_eq_true h) (by omega), fun _ => ⟨slotsS_len _ _, ?_⟩⟩
      exact cl2_loop us ts _ ht ts.length 0 (by omega)
    | n + 1, hi =>
      have hl : i < us.length := by omega
      rw [eV_step hl]
      refine ⟨fun _ => ⟨by simp; omega, fun h => ?_, fun h => ⟨slotsS_len _ _, ?_⟩⟩, fun h => absurd (of_decide_eq_false h) (by omega)⟩
      · have h : (!inR (nth3 us (i : Int))) = true := h
        rw [if_neg (by simpa using h)]; rfl
      · have h : (!inR (nth3 us (i : Int))) = false := h
        rw [if_pos (by simpa using h), wr1 (by omega)]
        exact cl1_loop us ts hu ht n (i + 1) (by omega)
theorem s_checkR (us ts : List T3) : SCall Tryd.prog 32 [.agg [.list v3 us, .list v3 ts]] (I64 (chk us ts)) := by
  refine scallR_loops rfl rfl (by kernel_rfl) (runsR_seg kVR (n := 1000) (hint := .unit) (keep := keepS 71 [1,5,19,20,21,33,34,35]) (p := cl0_p) (boxes := []) rfl ?_)
  have e := cl0 us ts
  unfold startS codeS at e
  erw [e]
  unfold cl0_t chk
  refine ⟨fun h => ?_, fun h => ⟨fun h1 => ?_, fun h1 => ⟨slotsS_len _ _, ?_⟩⟩⟩
  · rw [if_pos (.inl (of_decide_eq_true h))]; rfl
  · rw [if_pos (.inr (of_decide_eq_true h1))]; rfl
  · have h := of_decide_eq_false h
    have h1 := of_decide_eq_false h1
    rw [if_neg (by omega)]
    exact cl1_loop us ts (by omega) (by omega) us.length 0 (by omega)

/-! ### Facts on meshes -/

def factM (f : FuncId) (h : List T3 → List T3 → Tree SV) : Fact := ⟨f, fun args => match args with
  | [.agg [.list (.pair (.int .i64) (.pair (.int .i64) (.int .i64))) us, .list (.pair (.int .i64) (.pair (.int .i64) (.int .i64))) ts]] => some (h us ts)
  | _ => none⟩
theorem factM_ok {P : Program} {f : FuncId} {h : List T3 → List T3 → Tree SV} (k : ∀ us ts, (h us ts).says (SCall P f [.agg [.list v3 us, .list v3 ts]])) : (factM f h).ok P := fun args t ht => by
  simp only [factM] at ht
  split at ht
  · injection ht with ht; subst ht; exact k _ _
  · cases ht
def fCheck : Fact := factM 20 fun us ts => .leaf (I64 (chk us ts))
def fCheckR : Fact := factM 32 fun us ts => .leaf (I64 (chk us ts))
theorem o_check : fCheck.ok Tryd.prog := factM_ok s_check
theorem o_checkR : fCheckR.ok Tryd.prog := factM_ok s_checkR
end Go.Proofs.YtlhkgeoahblffaaDoor
set_option linter.unusedSimpArgs false
set_option linter.unusedVariables false
set_option maxRecDepth 100000
namespace Go.Proofs.YtlhkgeoahblffaaDoor
open Go.Sx
def v3S (p : Int × Int × Int) : SV := .agg [I64 p.1, I64 p.2.1, I64 p.2.2]
def noTri (us ts : List T3) (i : Int) : Bool := decide (i < 0) || (decide (i ≥ (ts.length : Int)) || (chk us ts != 0))
def cornersT (us ts : List T3) (i : Int) : SV := match noTri us ts i with
  | true => .tuple [v3S (0, 0, 0), v3S (0, 0, 0), v3S (0, 0, 0), .bool false]
  | false => .tuple [v3S (nth3 us (nth3 ts i).1), v3S (nth3 us (nth3 ts i).2.1), v3S (nth3 us (nth3 ts i).2.2), .bool true]
theorem chk0 {us ts : List T3} (h : chk us ts = 0) : (us.length : Int) ≤ 4096 ∧ (ts.length : Int) ≤ 4096 ∧ us.all inR = true ∧ ts.all (okT us.length) = true := by
  unfold chk at h
  split at h
  · cases h
  · unfold eV eT at h
    split at h
    · split at h
      · exact ⟨by omega, by omega, by assumption, by assumption⟩
      · cases h
    · cases h
theorem nth3_mem {l : List T3} {i : Int} (h0 : 0 ≤ i) (h : i < (l.length : Int)) : nth3 l i ∈ l := by
  have hl : i.toNat < l.length := by omega
  have e : nth3 l i = l[i.toNat] := by
    show List.getD (α := T3) l i.toNat (0, 0, 0) = _
    rw [List.getD_eq_getElem?_getD, List.getElem?_eq_getElem hl]; rfl
  rw [e]; exact List.getElem_mem hl
theorem chk0_tri {us ts : List T3} (h : chk us ts = 0) {i : Int} (h0 : 0 ≤ i) (hi : i < (ts.length : Int)) : (0 ≤ (nth3 ts i).1 ∧ (nth3 ts i).1 < us.length) ∧ (0 ≤ (nth3 ts i).2.1 ∧ (nth3 ts i).2.1 < us.length) ∧ 0 ≤ (nth3 ts i).2.2 ∧ (nth3 ts i).2.2 < us.length :=
  okT_iff.1 (List.all_eq_true.1 (chk0 h).2.2.2 _ (nth3_mem h0 hi))
theorem s_corners (us ts : List (Int × Int × Int)) (i : Int) : SCall Tryd.prog 21 [.agg [.list v3 us, .list v3 ts], I64 i] (cornersT us ts i) :=
  scall_v mix [fCheck] ⟨o_check, trivial⟩ 1000 (.fork (.lit (.lit (.lit (.lit (.lit (.lit (.lit (.lit (.lit (.lit (.all))))))))))) (.lit (.lit (.lit (.lit (.lit (.fork (.lit (.lit (.lit (.lit (.all))))) (.lit (.lit (.lit (.fork (.all) (.all))))))))))))
   (t := .node (decide (i < 0))
 (.leaf (SV.tuple [SV.agg [I64 0, I64 0, I64 0], SV.agg [I64 0, I64 0, I64 0], SV.agg [I64 0, I64 0, I64 0], SV.bool false]))
 (.node (decide (i ≥ (ts.length : Int)))
  (.leaf (SV.tuple [SV.agg [I64 0, I64 0, I64 0], SV.agg [I64 0, I64 0, I64 0], SV.agg [I64 0, I64 0, I64 0], SV.bool false]))
  (.node (chk us ts != 0)
   (.leaf (SV.tuple [SV.agg [I64 0, I64 0, I64 0], SV.agg [I64 0, I64 0, I64 0], SV.agg [I64 0, I64 0, I64 0], SV.bool false]))
   (.req (decide (0 ≤ i) && decide (i < (ts.length : Int))) (.req (decide (0 ≤ (nth3 ts i).fst) && decide ((nth3 ts i).fst < (us.length : Int))) (.req (decide (0 ≤ (nth3 ts i).snd.fst) && decide ((nth3 ts i).snd.fst < (us.length : Int))) (.req (decide (0 ≤ (nth3 ts i).snd.snd) && decide ((nth3 ts i).snd.snd < (us.length : Int))) (.leaf (SV.tuple [SV.agg [I64 (nth3 us (nth3 ts i).fst).fst, I64 (nth3 us (nth3 ts i).fst).snd.fst, I64 (nth3 us (nth3 ts i).fst).snd.snd], SV.agg [I64 (nth3 us (nth3 ts i).snd.fst).fst, I64 (nth3 us (nth3 ts i).snd.fst).snd.fst, I64 (nth3 us (nth3 ts i).snd.fst).snd.snd], SV.agg [I64 (nth3 us (nth3 ts i).snd.snd).fst, I64 (nth3 us (nth3 ts i).snd.snd).snd.fst, I64 (nth3 us (nth3 ts i).snd.snd).snd.snd], SV.bool true])))))))))
   (by kernel_rfl) (by 
     unfold cornersT
     simp only [Tree.holds, decide_eq_true_eq, decide_eq_false_iff_not, bne_iff_ne, bne_eq_false_iff_eq, ne_eq, Bool.and_eq_true]
     refine ⟨fun h => ?_, fun h => ⟨fun h1 => ?_, fun h1 => ⟨fun h2 => ?_, fun h2 => ?_⟩⟩⟩
     · rw [show noTri us ts i = true by simp [noTri, h]]; rfl
     · rw [show noTri us ts i = true by simp [noTri]; omega]; rfl
     · rw [show noTri us ts i = true by simp [noTri, h2]]; rfl
     · rw [show noTri us ts i = false by simp [noTri, h2]; omega]
       have := chk0_tri h2 (i := i) (by omega) (by omega)
       exact ⟨by omega, this.1, this.2.1, this.2.2, rfl⟩) (by kernel_rfl) (by unfold cornersT; split <;> rfl)
def fCorners : Fact := ⟨21, fun args => match args with
  | [.agg [.list (.pair (.int .i64) (.pair (.int .i64) (.int .i64))) us, .list (.pair (.int .i64) (.pair (.int .i64) (.int .i64))) ts], .int .i64 i] => some (.node (noTri us ts i)
    (.leaf (.tuple [v3S (0, 0, 0), v3S (0, 0, 0), v3S (0, 0, 0), .bool false]))
    (.leaf (.tuple [v3S (nth3 us (nth3 ts i).1), v3S (nth3 us (nth3 ts i).2.1), v3S (nth3 us (nth3 ts i).2.2), .bool true])))
  | _ => none⟩
theorem o_corners : fCorners.ok Tryd.prog := fun args t ht => by
  simp only [fCorners] at ht
  split at ht
  · rename_i us ts i
    injection ht with ht; subst ht
    have h0 := s_corners us ts i
    unfold cornersT at h0
    exact ⟨fun h => by rw [h] at h0; exact h0, fun h => by rw [h] at h0; exact h0⟩
  · cases ht
def sm0_p : Plan := .fork (.lit (.lit (.lit (.lit (.lit (.lit (.lit (.lit (.all))))))))) (.lit (.lit (.lit (.lit (.lit (.lit (.lit (.fork (.all) (.all)))))))))
noncomputable def sm0_t (us ts us2 ts2 : List (Int × Int × Int)) : Tree Stop :=
   .node ((us.length : Int) != (us2.length : Int))
 (.leaf (Stop.done (SV.bool false)))
 (.node ((ts.length : Int) != (ts2.length : Int))
  (.leaf (Stop.done (SV.bool false)))
  (.leaf (Stop.at (loopOf Tryd.prog 19 0) 59 (slotsS 59 [(2, SV.ptr 0 0), (3, SV.ptr 1 0), (25, I64 (us.length : Int)), (26, I64 0), (43, SV.undef), (44, SV.undef)]) [some (Box.cells [SV.list v3 us, SV.list v3 ts]), some (Box.cells [SV.list v3 us2, SV.list v3 ts2])])))
theorem sm0 (us ts us2 ts2 : List (Int × Int × Int)) : segR (Env.of Tryd.prog (sumOf [])) 1000 (fnOf Tryd.prog 19) .unit (keepS 59 [2,3,25,26,43,44]) (codeS Tryd.prog 19) sm0_p (startS Tryd.prog 19 [.agg [.list v3 us, .list v3 ts], .agg [.list v3 us2, .list v3 ts2]]) [] = sm0_t us ts us2 ts2 := by kernel_rfl
def sm1_p : Plan := .fork (.fork (.all) (.all)) (.all)
noncomputable def sm1_t (us ts us2 ts2 : List (Int × Int × Int)) (i : Int) : Tree Stop :=
   .node (decide (i < (us.length : Int)))
 (.req (decide (0 ≤ i) && decide (i < (us.length : Int))) (.req (decide (0 ≤ i) && decide (i < (us2.length : Int))) (.node (!((nth3 us i).fst == (nth3 us2 i).fst && ((nth3 us i).snd.fst == (nth3 us2 i).snd.fst && ((nth3 us i).snd.snd == (nth3 us2 i).snd.snd && true))))
    (.leaf (Stop.done (SV.bool false)))
    (.leaf (Stop.at (loopOf Tryd.prog 19 0) 59 (slotsS 59 [(2, SV.ptr 0 0), (3, SV.ptr 1 0), (25, I64 (us.length : Int)), (26, I64 (IntKind.i64.wrap (i + 1))), (43, SV.undef), (44, SV.undef)]) [some (Box.cells [SV.list v3 us, SV.list v3 ts]), some (Box.cells [SV.list v3 us2, SV.list v3 ts2])])))))
 (.leaf (Stop.at (loopOf Tryd.prog 19 1) 59 (slotsS 59 [(2, SV.ptr 0 0), (3, SV.ptr 1 0), (25, I64 (us.length : Int)), (26, I64 i), (43, I64 (ts.length : Int)), (44, I64 0)]) [some (Box.cells [SV.list v3 us, SV.list v3 ts]), some (Box.cells [SV.list v3 us2, SV.list v3 ts2])]))
theorem sm1 (us ts us2 ts2 : List (Int × Int × Int)) (i : Int) : segR (Env.of Tryd.prog (sumOf [])) 1000 (fnOf Tryd.prog 19) .unit (keepS 59 [2,3,25,26,43,44]) (loopOf Tryd.prog 19 0) sm1_p (slotsS 59 [(2, .ptr 0 0), (3, .ptr 1 0), (25, I64 (us.length : Int)), (26, I64 i), (43, .undef), (44, .undef)]) [some (.cells [.list v3 us, .list v3 ts]), some (.cells [.list v3 us2, .list v3 ts2])] = sm1_t us ts us2 ts2 i := by kernel_rfl
def sm2_p : Plan := .fork (.fork (.all) (.all)) (.all)
noncomputable def sm2_t (us ts us2 ts2 : List (Int × Int × Int)) (j i : Int) : Tree Stop :=
   .node (decide (i < (ts.length : Int)))
 (.req (decide (0 ≤ i) && decide (i < (ts.length : Int))) (.req (decide (0 ≤ i) && decide (i < (ts2.length : Int))) (.node (!((nth3 ts i).fst == (nth3 ts2 i).fst && ((nth3 ts i).snd.fst == (nth3 ts2 i).snd.fst && ((nth3 ts i).snd.snd == (nth3 ts2 i).snd.snd && true))))
    (.leaf (Stop.done (SV.bool false)))
    (.leaf (Stop.at (loopOf Tryd.prog 19 1) 59 (slotsS 59 [(2, SV.ptr 0 0), (3, SV.ptr 1 0), (25, I64 (us.length : Int)), (26, I64 j), (43, I64 (ts.length : Int)), (44, I64 (IntKind.i64.wrap (i + 1)))]) [some (Box.cells [SV.list v3 us, SV.list v3 ts]), some (Box.cells [SV.list v3 us2, SV.list v3 ts2])])))))
 (.leaf (Stop.done (SV.bool true)))
theorem sm2 (us ts us2 ts2 : List (Int × Int × Int)) (j i : Int) : segR (Env.of Tryd.prog (sumOf [])) 1000 (fnOf Tryd.prog 19) .unit (keepS 59 [2,3,25,26,43,44]) (loopOf Tryd.prog 19 1) sm2_p (slotsS 59 [(2, .ptr 0 0), (3, .ptr 1 0), (25, I64 (us.length : Int)), (26, I64 j), (43, I64 (ts.length : Int)), (44, I64 i)]) [some (.cells [.list v3 us, .list v3 ts]), some (.cells [.list v3 us2, .list v3 ts2])] = sm2_t us ts us2 ts2 j i := by kernel_rfl
end Go.Proofs.YtlhkgeoahblffaaDoor
