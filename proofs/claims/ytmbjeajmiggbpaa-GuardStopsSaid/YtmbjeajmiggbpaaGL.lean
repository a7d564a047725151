/-
  GL: what is true of the interlock's plain words: validity is kept, limits are kept.
-/
import Derived.Test.YtmbjeajmiggbpaaG1
set_option linter.unusedSimpArgs false
set_option linter.unusedVariables false
namespace Go.Proofs.Ytmbjeajmiggbpaa
open Go.Sx

structure Same (g h : G) : Prop where
  low : h.low = g.low
  high : h.high = g.high
  watch : h.watch = g.watch
  rise : h.rise = g.rise
  band : h.band = g.band
  idle : h.idle = g.idle
  door : h.door = g.door

theorem step_off {g : G} (hv : g.valid = false) (r t d : Int) : g.step r t d = (g, 0) := by simp [G.step, hv]

theorem step_fault {g : G} (hf : g.fault ≠ 0) (r t d : Int) : g.step r t d = (g, 0) := by simp [G.step, hf]

theorem tick_ok {g : G} {d : Int} (hv : g.valid = true) (hd : 0 ≤ d ∧ d ≤ 255) : (g.tick d).1.valid = true ∧ 0 ≤ (g.tick d).2 ∧ (g.tick d).2 ≤ 255 ∧ Same g (g.tick d).1 := by
  have v := (G.valid_iff g).mp hv
  rw [G.valid_iff]
  simp only [G.tick]
  split
  · exact ⟨by dsimp only; omega, by dsimp only; omega, by dsimp only; omega, ⟨rfl, rfl, rfl, rfl, rfl, rfl, rfl⟩⟩
  · exact ⟨by dsimp only; omega, by dsimp only; omega, by dsimp only; omega, ⟨rfl, rfl, rfl, rfl, rfl, rfl, rfl⟩⟩

theorem step_ok {g : G} (hv : g.valid = true) (r t d : Int) : (g.step r t d).1.valid = true ∧ 0 ≤ (g.step r t d).2 ∧ (g.step r t d).2 ≤ 255 ∧ Same g (g.step r t d).1 := by
  have v := (G.valid_iff g).mp hv
  have c := clampB_le (n := d) (lo := 0) (hi := 255) (by omega)
  have leaf : ∀ (h : G) (x : Int), h.valid = true → 0 ≤ x → x ≤ 255 → Same g h → (h, x).1.valid = true ∧ 0 ≤ (h, x).2 ∧ (h, x).2 ≤ 255 ∧ Same g (h, x).1 := fun h x a b c d => ⟨a, b, c, d⟩
  have fr : (!g.valid || !(g.fault == 0)) = (!(g.fault == 0)) := by rw [hv]; rfl
  unfold G.step
  rw [fr]
  split
  · exact leaf _ _ hv (by omega) (by omega) ⟨rfl, rfl, rfl, rfl, rfl, rfl, rfl⟩
  split
  · exact leaf _ _ (by rw [G.valid_iff]; dsimp only; omega) (by omega) (by omega) ⟨rfl, rfl, rfl, rfl, rfl, rfl, rfl⟩
  split
  · exact leaf _ _ (by rw [G.valid_iff]; dsimp only; omega) (by omega) (by omega) ⟨rfl, rfl, rfl, rfl, rfl, rfl, rfl⟩
  split
  · exact leaf _ _ (by rw [G.valid_iff]; dsimp only; omega) (by omega) (by omega) ⟨rfl, rfl, rfl, rfl, rfl, rfl, rfl⟩
  split
  · exact leaf _ _ (by rw [G.valid_iff]; dsimp only; omega) (by omega) (by omega) ⟨rfl, rfl, rfl, rfl, rfl, rfl, rfl⟩
  split
  · exact leaf _ _ (by rw [G.valid_iff]; dsimp only; omega) c.1 c.2 ⟨rfl, rfl, rfl, rfl, rfl, rfl, rfl⟩
  split
  · obtain ⟨a1, a2, a3, a4⟩ := tick_ok (g := { g with quiet := g.quiet + 1, base := r, count := 0 }) (d := clampB d 0 255) (by rw [G.valid_iff]; dsimp only; omega) c
    exact ⟨a1, a2, a3, ⟨a4.low, a4.high, a4.watch, a4.rise, a4.band, a4.idle, a4.door⟩⟩
  · obtain ⟨a1, a2, a3, a4⟩ := tick_ok (g := { g with quiet := g.quiet + 1 }) (d := clampB d 0 255) (by rw [G.valid_iff]; dsimp only; omega) c
    exact ⟨a1, a2, a3, ⟨a4.low, a4.high, a4.watch, a4.rise, a4.band, a4.idle, a4.door⟩⟩

theorem touch_ok {g : G} (hv : g.valid = true) : g.touch.valid = true := by
  have v := (G.valid_iff g).mp hv
  simp only [G.touch, hv, if_true]
  rw [G.valid_iff]; dsimp only; omega
theorem door_ok {g : G} (hv : g.valid = true) (o : Bool) : (g.setDoor o).valid = true := by
  have v := (G.valid_iff g).mp hv
  simp only [G.setDoor, hv, if_true]
  rw [G.valid_iff]; dsimp only; omega
theorem stop_ok {g : G} (hv : g.valid = true) : g.stop.valid = true := by
  have v := (G.valid_iff g).mp hv
  simp only [G.stop, hv, if_true]
  rw [G.valid_iff]; dsimp only; omega
theorem reset_ok {g : G} {r : Int} (h0 : (g.reset r).2 = 0) : g.valid = true ∧ (g.reset r).1.valid = true := by
  unfold G.reset at h0 ⊢
  split at h0
  · simp at h0
  · rename_i hv
    have hv : g.valid = true := by simpa using hv
    have v := (G.valid_iff g).mp hv
    split at h0
    · simp at h0
    · split at h0
      · simp at h0
      · rename_i h1 h2
        refine ⟨hv, ?_⟩
        rw [if_neg (by simp [hv]), if_neg h1, if_neg h2, G.valid_iff]
        dsimp only
        omega
end Go.Proofs.Ytmbjeajmiggbpaa
