/-
  G6: GuardRises and GuardOff as contracts: their loops by descent.
-/
import Derived.Test.YtmbjeajmiggbpaaG5
set_option linter.unusedSimpArgs false
set_option linter.unusedVariables false
set_option maxRecDepth 100000
namespace Go.Proofs.Ytmbjeajmiggbpaa
open Go.Sx

/-- One tick of the interlock, as the law of the rise tells it: behind it, with no fault, base and count say from where and how long. -/
theorem step_rises {g : G} (hv : g.valid = true) {r t d : Int} (ht : -1000000 ≤ t ∧ t ≤ 1000000) (hf : (g.step r t d).1.fault = 0) :
    (g.step r t d).1.count < (g.step r t d).1.watch ∧ (if (g.step r t d).2 = 0 ∨ t - g.band ≤ r ∨ g.base + g.rise ≤ r
      then (g.step r t d).1.base = r ∧ (g.step r t d).1.count = (if 0 < (g.step r t d).2 ∧ r < t - g.band then 1 else 0)
      else (g.step r t d).1.base = g.base ∧ (g.step r t d).1.count = g.count + 1) := by
  have v := (G.valid_iff g).mp hv
  have c := clampB_le (n := d) (lo := 0) (hi := 255) (by omega)
  have ct : clampB t (-1073741824) 1073741824 = t := by simp only [clampB]; split <;> (try split) <;> omega
  unfold G.step at hf ⊢
  simp only [ct, hv, Bool.not_true, Bool.false_or, G.tick] at hf ⊢
  by_cases h1 : g.fault = 0
  · simp only [h1, beq_self_eq_true, Bool.not_true, Bool.false_eq_true, if_false] at hf ⊢
    by_cases h2 : r < g.low
    · simp [h2] at hf
    by_cases h3 : g.high < r
    · simp [h2, h3] at hf
    simp only [h2, h3, if_false] at hf ⊢
    by_cases h4 : g.idle ≤ g.quiet + 1
    · simp only [h4, if_true]; simp; omega
    simp only [h4, if_false] at hf ⊢
    by_cases h5 : g.door = true
    · simp only [h5, if_true]; simp; omega
    simp only [h5, Bool.false_eq_true, if_false] at hf ⊢
    by_cases h6 : clampB d 0 255 = 0 ∨ t - g.band ≤ r
    · simp only [h6, if_true]
      generalize clampB d 0 255 = x at *
      refine ⟨by omega, ?_⟩
      grind
    simp only [h6, if_false] at hf ⊢
    generalize clampB d 0 255 = x at *
    by_cases h7 : g.base + g.rise ≤ r
    · simp only [h7, if_true, Int.zero_add] at hf ⊢
      by_cases h8 : g.watch ≤ 1
      · simp [h8] at hf
      · grind
    · simp only [h7, if_false] at hf ⊢
      by_cases h8 : g.watch ≤ g.count + 1
      · simp [h8] at hf
      · grind
  · simp [h1] at hf
theorem hK {l : List Fact} (h : allOk Try.prog l) : Known Try.prog (Env.of Try.prog (sumOf l)) := known_of mix (sumOf_ok l h.all)
theorem fsOk : allOk Try.prog [fTouch, fDoor, fStop, fReset, fValidR, fAwake, fStep, fBefore] := ⟨o_touch, o_door, o_stop, o_reset, o_validR, o_awake, o_step, o_before, trivial⟩

structure SR where
  g : G
  b : Int
  n : Int
  i : Int
def SR.inv (s : SR) : Prop := s.g.valid = true ∧ s.b = s.g.base ∧ s.n = s.g.count ∧ 0 ≤ s.i

theorem slots_len (n : Nat) (ks : List (Nat × SV)) : (slotsOf n ks).length = n := by simp [slotsOf]
/-- A tick that ends with a fault ends with no duty. -/
theorem step_stops {g : G} (hv : g.valid = true) {r t d : Int} (h : (g.step r t d).1.fault ≠ 0) : (g.step r t d).2 = 0 := by
  unfold G.step at h ⊢
  simp only [G.tick] at h ⊢
  by_cases h1 : g.fault = 0
  · simp only [hv, h1, beq_self_eq_true, Bool.not_true, Bool.or_false, Bool.false_eq_true, if_false] at h ⊢
    by_cases h2 : r < g.low
    · simp [h2]
    by_cases h3 : g.high < r
    · simp [h2, h3]
    simp only [h2, h3, if_false] at h ⊢
    split <;> rename_i k1
    · rfl
    rw [if_neg k1] at h
    split <;> rename_i k2
    · rfl
    rw [if_neg k2] at h
    split <;> rename_i k3
    · rw [if_pos k3] at h; simp at h; try omega
    rw [if_neg k3] at h
    split <;> rename_i k4
    · rw [if_pos k4] at h
      split <;> rename_i k5
      · rfl
      · rw [if_neg k5] at h; simp at h; try omega
    · rw [if_neg k4] at h
      split <;> rename_i k5
      · rfl
      · rw [if_neg k5] at h; simp at h; try omega
  · simp [h1]

theorem rises_leaves {g : G} {l : List Tk.T} {b n i : Int} (hi : 0 ≤ i) (hv : g.valid = true) (hb : b = g.base) (hn : n = g.count) (Q : Stop → Prop)
    (q1 : Q (.done (.bool true))) (q2 : ∀ g' b' n' i', SR.inv ⟨g', b', n', i'⟩ → i < i' → i < 40 → Q (stR l g' b' n' i')) : (rises1_t g l b n i).holds Q := by
  unfold rises1_t
  have wi : i < 40 → IntKind.i64.wrap (i + 1) = i + 1 := fun h => wrap64 (by omega) (by omega)
  have sk := step_ok hv (tR l i) (tT l i) (tD l i)
  have sv := (G.valid_iff g).mp hv
  have nv := (G.valid_iff _).mp sk.1
  have sm := sk.2.2.2
  have hf0 := step_stops hv (r := tR l i) (t := tT l i) (d := tD l i)
  have hr := fun ht hf => step_rises hv (r := tR l i) (t := tT l i) (d := tD l i) ht hf
  generalize g.step (tR l i) (tT l i) (tD l i) = p at *
  obtain ⟨h, d⟩ := p
  generalize tR l i = r at *
  generalize tT l i = t at *
  have e1 := sm.watch
  have e2 := sm.rise
  have e3 := sm.band
  dsimp only at *
  have w1 : -1000000 ≤ t → t ≤ 1000000 → IntKind.i64.wrap (t - h.band) = t - h.band := fun _ _ => wrap64 (by omega) (by omega)
  have w2 : IntKind.i64.wrap (b + h.rise) = b + h.rise := wrap64 (by omega) (by omega)
  have w3 : IntKind.i64.wrap (n + 1) = n + 1 := wrap64 (by omega) (by omega)
  have w4 : IntKind.i64.wrap (0 + 1) = 1 := by decide
  rw [w2, w3, w4]
  by_cases c1 : t < -1000000
  · simp only [Tree.holds, c1, decide_eq_true_eq, decide_eq_false_iff_not, Bool.and_eq_true, not_true, false_implies, true_implies, and_true]
    repeat' (first | apply And.intro | intro _)
    all_goals first | exact q1 | omega
  by_cases c2 : t > 1000000
  · simp only [Tree.holds, c1, c2, decide_eq_true_eq, decide_eq_false_iff_not, Bool.and_eq_true, not_true, false_implies, true_implies, and_true, true_and, not_false_eq_true]
    repeat' (first | apply And.intro | intro _)
    all_goals first | exact q1 | omega
  rw [w1 (by omega) (by omega)]
  simp only [Tree.holds, decide_eq_true_eq, decide_eq_false_iff_not, bne_iff_ne, bne_eq_false_iff_eq, beq_iff_eq, beq_eq_false_iff_ne, Bool.and_eq_true]
  repeat' (first | apply And.intro | intro _)
  all_goals first
    | exact q1
    | omega
    | (exfalso; have := hf0 ‹_›; omega)
    | (have hr := hr (by omega) ‹_›
       split at hr <;> first
        | (exfalso; omega)
        | (refine q2 _ _ _ _ ⟨sk.1, ?_, ?_, ?_⟩ ?_ ‹_› <;> (try dsimp only) <;> (try rw [wi ‹_›]) <;> (try split at hr) <;> omega))

theorem rises_loop (l : List Tk.T) : ∀ s : SR, s.inv → Runs Try.prog (fnOf Try.prog 4) (.bool true) (loopOf Try.prog 4 0) (slotsOf 105 [(1, .list Tk l), (2, .ptr 0 0), (5, i64 s.b), (6, i64 s.n), (7, i64 s.i)]) [some (.cells s.g.cells)] := by
  refine runs_of (hK fsOk) (n := 1000) SR.inv (fun s => (40 - s.i).toNat) (keepOf 105 [1, 2, 5, 6, 7] 1) (fun _ => loopOf Try.prog 4 0) _ (fun s => [some (.cells s.g.cells)]) (fun _ => rises1_p) fun s hs => ?_
  rw [rises1]
  obtain ⟨g, b, n, i⟩ := s
  obtain ⟨hv, hb, hn, hi⟩ := hs
  dsimp only at hv hb hn hi ⊢
  refine rises_leaves hi hv hb hn _ rfl fun g' b' n' i' hs hii h40 => ⟨⟨g', b', n', i'⟩, hs, ?_, rfl, rfl, rfl, slots_len _ _, Nat.le_refl _, rfl, rfl⟩
  dsimp only; omega

/-- A duty that is not 0 says much. -/
theorem step_on {g : G} (hv : g.valid = true) {r t d : Int} (h : (g.step r t d).2 ≠ 0) : g.fault = 0 ∧ (g.step r t d).1.fault = 0 ∧ g.door = false ∧ (g.step r t d).1.quiet = g.quiet + 1 ∧ g.quiet + 1 < g.idle ∧ g.low ≤ r ∧ r ≤ g.high ∧ 0 ≤ (g.step r t d).2 ∧ (g.step r t d).2 ≤ d := by
  have c := clampB_le (n := d) (lo := 0) (hi := 255) (by omega)
  have c2 : clampB d 0 255 ≠ 0 → clampB d 0 255 ≤ d := by simp only [clampB]; split <;> (try split) <;> omega
  unfold G.step at h ⊢
  simp only [G.tick] at h ⊢
  by_cases h1 : g.fault = 0
  · simp only [hv, h1, beq_self_eq_true, Bool.not_true, Bool.or_false, Bool.false_eq_true, if_false] at h ⊢
    by_cases h2 : r < g.low
    · simp [h2] at h
    by_cases h3 : g.high < r
    · simp [h2, h3] at h
    simp only [h2, h3, if_false] at h ⊢
    by_cases k1 : g.idle ≤ g.quiet + 1
    · simp [k1] at h
    simp only [k1, if_false] at h ⊢
    by_cases k2 : g.door = true
    · simp [k2] at h
    have k2' : g.door = false := by simpa using k2
    simp only [k2', Bool.false_eq_true, if_false] at h ⊢
    by_cases k3 : clampB d 0 255 = 0 ∨ clampB t (-1073741824) 1073741824 - g.band ≤ r
    · simp only [k3, if_true] at h ⊢
      refine ⟨trivial, by simp, trivial, by simp, by omega, by omega, by omega, by omega, c2 h⟩
    simp only [k3, if_false] at h ⊢
    by_cases k4 : g.base + g.rise ≤ r
    · simp only [k4, if_true, Int.zero_add] at h ⊢
      by_cases k5 : g.watch ≤ 1
      · simp [k5] at h
      · simp only [k5, if_false] at h ⊢
        refine ⟨trivial, by simp, trivial, by simp, by omega, by omega, by omega, by omega, c2 h⟩
    · simp only [k4, if_false] at h ⊢
      by_cases k5 : g.watch ≤ g.count + 1
      · simp [k5] at h
      · simp only [k5, if_false] at h ⊢
        refine ⟨trivial, by simp, trivial, by simp, by omega, by omega, by omega, by omega, c2 h⟩
  · simp [h1] at h

theorem step_quiet {g : G} (hv : g.valid = true) (r t d : Int) : (g.step r t d).1.fault ≠ 0 ∨ (g.step r t d).1.idle ≤ (g.step r t d).1.quiet ∨ (g.fault = 0 ∧ (g.step r t d).1.quiet = g.quiet + 1) := by
  unfold G.step
  simp only [G.tick]
  by_cases h1 : g.fault = 0
  · simp only [hv, h1, beq_self_eq_true, Bool.not_true, Bool.or_false, Bool.false_eq_true, if_false]
    repeat' split
    all_goals simp
  · simp [h1]

theorem before_ok {g : G} (hv : g.valid = true) (a b : Int) : (before g a b).valid = true := by
  unfold before
  split
  · exact touch_ok hv
  split
  · exact door_ok hv _
  split
  · exact stop_ok hv
  split
  · split
    · rename_i h; exact (reset_ok h).2
    · exact hv
  · exact hv

theorem before_quiet {g : G} (hv : g.valid = true) (a b : Int) : (a = 1 ∧ (before g a b).quiet = 0) ∨ (a = 5 ∧ ¬ a = 1 ∧ (before g a b = g ∨ (before g a b ≠ g ∧ (before g a b).quiet = 0))) ∨
    (¬ a = 1 ∧ ¬ a = 5 ∧ (before g a b).quiet = g.quiet ∧ (before g a b).idle = g.idle ∧ ((before g a b).fault = g.fault ∨ (before g a b).fault ≠ 0)) := by
  unfold before
  by_cases h1 : a = 1
  · simp [h1, G.touch, hv]
  by_cases h2 : a = 2 ∨ a = 3
  · have : ¬ a = 5 := by omega
    simp [h1, h2, this, G.setDoor, hv]
  by_cases h3 : a = 4
  · have : ¬ a = 5 := by omega
    simp [h3, G.stop, hv]
  by_cases h4 : a = 5
  · simp only [h1, h2, h3, h4, if_false, if_true]
    right; left
    refine ⟨trivial, by omega, ?_⟩
    by_cases h5 : (g.reset b).2 = 0
    · rw [if_neg (by omega), if_neg (by omega), if_neg (by omega), if_pos h5]
      right
      unfold G.reset at h5 ⊢
      simp only [hv, Bool.not_true, Bool.false_eq_true, if_false] at h5 ⊢
      by_cases h6 : g.fault = 0
      · simp [h6] at h5
      · have h7 : (g.fault == 0) = false := by simpa using h6
        simp only [h7, Bool.false_eq_true, if_false] at h5 ⊢
        by_cases h8 : b < g.low ∨ g.high < b
        · simp [h8] at h5
        · simp only [h8, if_false]
          refine ⟨fun e => h6 ?_, by trivial⟩
          rw [← e]
    · rw [if_neg (by omega), if_neg (by omega), if_neg (by omega), if_neg h5]
      exact .inl rfl
  · simp [h1, h2, h3, h4]

theorem G.eqb {g h : G} : (h.low == g.low && (h.high == g.high && (h.watch == g.watch && (h.rise == g.rise && (h.band == g.band && (h.base == g.base && (h.count == g.count && (h.idle == g.idle && (h.quiet == g.quiet && (h.fault == g.fault && (h.door == g.door && true))))))))))) = true ↔ h = g := by
  cases g; cases h; simp [G.mk.injEq]

theorem G.eqb_not {g h : G} : (h.low == g.low && (h.high == g.high && (h.watch == g.watch && (h.rise == g.rise && (h.band == g.band && (h.base == g.base && (h.count == g.count && (h.idle == g.idle && (h.quiet == g.quiet && (h.fault == g.fault && (h.door == g.door && true))))))))))) = false ↔ ¬ h = g := by
  rw [← G.eqb, Bool.not_eq_true]

structure SO where
  g : G
  q : Int
  i : Int
def SO.inv (s : SO) : Prop := s.g.valid = true ∧ (s.q ≤ s.g.quiet ∨ s.g.fault ≠ 0 ∨ s.g.idle ≤ s.g.quiet) ∧ 0 ≤ s.q ∧ s.q ≤ 1048576 + s.i ∧ 0 ≤ s.i

theorem off_leaves {g : G} {l : List Tk.T} {q i : Int} (hs : SO.inv ⟨g, q, i⟩) (Q : Stop → Prop)
    (q1 : Q (.done (.bool true))) (q2 : ∀ g' q' i', SO.inv ⟨g', q', i'⟩ → i < i' → i < 40 → Q (stO l g' q' i')) : (off1_t g l q i).holds Q := by
  obtain ⟨hv, hq, hq0, hqi, hi⟩ := hs
  dsimp only at hv hq hq0 hqi hi
  unfold off1_t
  have wi : i < 40 → IntKind.i64.wrap (i + 1) = i + 1 := fun h => wrap64 (by omega) (by omega)
  have wq : i < 40 → IntKind.i64.wrap (q + 1) = q + 1 := fun h => wrap64 (by omega) (by omega)
  have w4 : IntKind.i64.wrap (0 + 1) = 1 := by decide
  rw [w4]
  have bk := before_ok hv (tC l i) (tR l i)
  have bq := before_quiet hv (tC l i) (tR l i)
  generalize before g (tC l i) (tR l i) = h at *
  have sk := step_ok bk (tR l i) (tT l i) (tD l i)
  have sn := step_on bk (r := tR l i) (t := tT l i) (d := tD l i)
  have sq := step_quiet bk (tR l i) (tT l i) (tD l i)
  generalize h.step (tR l i) (tT l i) (tD l i) = p at *
  obtain ⟨h', d⟩ := p
  generalize tR l i = r at *
  generalize tT l i = t at *
  generalize tD l i = w at *
  generalize tC l i = a at *
  dsimp only at *
  have sv := (G.valid_iff g).mp hv
  have nv := (G.valid_iff _).mp sk.1
  have e1 := sk.2.2.2.idle
  have e2 := sk.2.2.2.low
  have e3 := sk.2.2.2.high
  have e4 := sk.2.2.2.door
  have e5 := (G.valid_iff h).mp bk
  simp only [Tree.holds, Bool.not_eq_true', Bool.not_eq_false', G.eqb, G.eqb_not, decide_eq_true_eq, decide_eq_false_iff_not, bne_iff_ne, bne_eq_false_iff_eq, beq_iff_eq, beq_eq_false_iff_ne, Bool.and_eq_true]
  repeat' (first | apply And.intro | intro _)
  all_goals first
    | exact q1
    | omega
    | (exfalso; have sn := sn ‹_›; simp_all; done)
    | (exfalso; have sn := sn ‹_›; omega)
    | (rcases bq with ⟨b1, b2⟩ | ⟨b1, b1', rfl | ⟨b2, b3⟩⟩ | ⟨b1, b2, b3, b4, b5⟩ <;> first
        | omega
        | (exfalso; exact absurd rfl ‹¬ _ = _›)
        | (exfalso; exact b2 ‹_›)
        | (refine q2 _ _ _ ⟨sk.1, ?_, ?_, ?_, ?_⟩ ?_ ‹_› <;> (try dsimp only) <;> (try rw [wi ‹_›]) <;> (try rw [wq ‹_›]) <;> omega))

theorem off_loop (l : List Tk.T) : ∀ s : SO, s.inv → Runs Try.prog (fnOf Try.prog 7) (.bool true) (loopOf Try.prog 7 0) (slotsOf 108 [(1, .list Tk l), (2, .ptr 0 0), (5, i64 s.q), (6, i64 s.i)]) [some (.cells s.g.cells)] := by
  refine runs_of (hK fsOk) (n := 1000) SO.inv (fun s => (40 - s.i).toNat) (keepOf 108 [1, 2, 5, 6] 1) (fun _ => loopOf Try.prog 7 0) _ (fun s => [some (.cells s.g.cells)]) (fun _ => off1_p) fun s hs => ?_
  rw [off1]
  obtain ⟨g, q, i⟩ := s
  dsimp only
  refine off_leaves hs _ rfl fun g' q' i' hs' hii h40 => ⟨⟨g', q', i'⟩, hs', ?_, rfl, rfl, rfl, slots_len _ _, Nat.le_refl _, rfl, rfl⟩
  dsimp only; omega

structure SS where
  g : G
  i : Int
def SS.inv (s : SS) : Prop := s.g.valid = true ∧ s.g.fault = 4 ∧ 0 ≤ s.i

theorem before_fault {g : G} (hv : g.valid = true) (hf : g.fault = 4) {a : Int} (ha : a ≠ 5) (b : Int) : (before g a b).fault = 4 := by
  unfold before
  split
  · simpa [G.touch, hv] using hf
  split
  · simpa [G.setDoor, hv] using hf
  split
  · simp [G.stop, hv]
  exact hf

theorem stops_leaves {g : G} {l : List Tk.T} {i : Int} (hs : SS.inv ⟨g, i⟩) (Q : Stop → Prop)
    (q1 : Q (.done (.bool true))) (q2 : ∀ g' i', SS.inv ⟨g', i'⟩ → i < i' → i < 40 → Q (stS l g' i')) : (stops1_t g l i).holds Q := by
  obtain ⟨hv, hf, hi⟩ := hs
  dsimp only at hv hf hi
  unfold stops1_t
  have wi : i < 40 → IntKind.i64.wrap (i + 1) = i + 1 := fun h => wrap64 (by omega) (by omega)
  have b0 := before_fault hv hf (a := 0) (by omega) (tR l i)
  have v0 := before_ok hv 0 (tR l i)
  have v1 := before_ok hv (tC l i) (tR l i)
  rw [step_fault (by rw [b0]; omega)]
  by_cases c : tC l i = 5
  · have e : (tC l i == 5) = true := by simpa using c
    rw [e]
    simp only [Tree.holds, decide_eq_true_eq, decide_eq_false_iff_not, Bool.and_eq_true, bne_self_eq_false, Bool.false_eq_true, false_implies, true_implies, true_and, Bool.true_eq_false, and_true, b0]
    refine ⟨fun h1 => ⟨fun h2 => ⟨⟨hi, h1⟩, ?_⟩, fun _ => q1⟩, fun _ => q1⟩
    rw [wi h2]
    exact q2 _ _ ⟨v0, b0, by dsimp only; omega⟩ (by omega) h2
  · have e : (tC l i == 5) = false := by simpa using c
    have b1 := before_fault hv hf c (tR l i)
    rw [e, step_fault (by rw [b1]; omega)]
    simp only [Tree.holds, decide_eq_true_eq, decide_eq_false_iff_not, Bool.and_eq_true, bne_self_eq_false, Bool.false_eq_true, false_implies, true_implies, true_and, Bool.true_eq_false, and_true, b1]
    refine ⟨fun h1 => ⟨fun h2 => ⟨⟨hi, h1⟩, ?_⟩, fun _ => q1⟩, fun _ => q1⟩
    rw [wi h2]
    exact q2 _ _ ⟨v1, b1, by dsimp only; omega⟩ (by omega) h2

theorem stops_loop (l : List Tk.T) : ∀ s : SS, s.inv → Runs Try.prog (fnOf Try.prog 8) (.bool true) (loopOf Try.prog 8 0) (slotsOf 55 [(1, .list Tk l), (2, .ptr 0 0), (5, i64 s.i)]) [some (.cells s.g.cells)] := by
  refine runs_of (hK fsOk) (n := 1000) SS.inv (fun s => (40 - s.i).toNat) (keepOf 55 [1, 2, 5] 1) (fun _ => loopOf Try.prog 8 0) _ (fun s => [some (.cells s.g.cells)]) (fun _ => stops1_p) fun s hs => ?_
  rw [stops1]
  obtain ⟨g, i⟩ := s
  dsimp only
  refine stops_leaves hs _ rfl fun g' i' hs' hii h40 => ⟨⟨g', i'⟩, hs', ?_, rfl, rfl, rfl, slots_len _ _, Nat.le_refl _, rfl, rfl⟩
  dsimp only; omega

theorem s_stops (g : G) (l : List Tk.T) : SCall Try.prog 8 [g.sv, .list Tk l] (.bool true) := by
  refine scall_loops rfl rfl (by kernel_rfl) (runs_seg (hK fsOk) (n := 1000) (keep := keepOf 55 [1, 2, 5] 1) (p := stops0_p) (boxes := []) ?_)
  have e := stops0 g l
  unfold start codeOf at e
  erw [e]
  unfold stops0_t
  simp only [Tree.holds, Bool.not_eq_true', Bool.not_eq_false', bne_iff_ne, bne_eq_false_iff_eq]
  refine ⟨fun _ => trivial, fun hv => ⟨slots_len _ _, Nat.zero_le _, rfl, rfl, stops_loop l ⟨g.stop, 0⟩ ?_⟩⟩
  exact ⟨stop_ok hv, by simp [G.stop, hv], Int.le_refl _⟩

theorem s_rises (g : G) (l : List Tk.T) : SCall Try.prog 4 [g.sv, .list Tk l] (.bool true) := by
  refine scall_loops rfl rfl (by kernel_rfl) (runs_seg (hK fsOk) (n := 1000) (keep := keepOf 105 [1, 2, 5, 6, 7] 1) (p := rises0_p) (boxes := []) ?_)
  have e := rises0 g l
  unfold start codeOf at e
  erw [e]
  unfold rises0_t
  simp only [Tree.holds, Bool.not_eq_true', Bool.not_eq_false', bne_iff_ne, bne_eq_false_iff_eq]
  refine ⟨fun _ => trivial, fun hv => ⟨fun _ => trivial, fun hc => ⟨slots_len _ _, Nat.zero_le _, rfl, rfl, rises_loop l ⟨g, g.base, 0, 0⟩ ⟨hv, rfl, hc.symm, Int.le_refl 0⟩⟩⟩⟩

theorem s_off (g : G) (l : List Tk.T) : SCall Try.prog 7 [g.sv, .list Tk l] (.bool true) := by
  refine scall_loops rfl rfl (by kernel_rfl) (runs_seg (hK fsOk) (n := 1000) (keep := keepOf 108 [1, 2, 5, 6] 1) (p := off0_p) (boxes := []) ?_)
  have e := off0 g l
  unfold start codeOf at e
  erw [e]
  unfold off0_t
  simp only [Tree.holds, Bool.not_eq_true', Bool.not_eq_false', bne_iff_ne, bne_eq_false_iff_eq]
  refine ⟨fun _ => trivial, fun hv => ⟨slots_len _ _, Nat.zero_le _, rfl, rfl, off_loop l ⟨g, g.quiet, 0⟩ ?_⟩⟩
  have := (G.valid_iff g).mp hv
  exact ⟨hv, .inl (Int.le_refl _), by dsimp only; omega, by dsimp only; omega, Int.le_refl _⟩
end Go.Proofs.Ytmbjeajmiggbpaa
