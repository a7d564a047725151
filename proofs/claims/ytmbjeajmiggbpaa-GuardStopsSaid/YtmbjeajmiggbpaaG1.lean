/-
  G1: what the interlock of a heater computes, in plain words of Lean.
-/
import Derived.Test.YtmbjeajmiggbpaaSx18
import Derived.Test.YtmbjeajmiggbpaaProg
set_option linter.unusedSimpArgs false
set_option linter.unusedVariables false
namespace Go.Proofs.Ytmbjeajmiggbpaa
open Go.Sx

theorem mix : Try.prog.follows .mixedOrders = true := by kernel_rfl

structure G where
  low : Int
  high : Int
  watch : Int
  rise : Int
  band : Int
  base : Int
  count : Int
  idle : Int
  quiet : Int
  fault : Int
  door : Bool

def i64 (n : Int) : SV := .int .i64 n

def G.cells (g : G) : List SV := [i64 g.low, i64 g.high, i64 g.watch, i64 g.rise, i64 g.band, i64 g.base, i64 g.count, i64 g.idle, i64 g.quiet, i64 g.fault, .bool g.door]
def G.sv (g : G) : SV := .agg g.cells

def inR (n lo hi : Int) : Bool := decide (lo ≤ n) && decide (n ≤ hi)
def clampA (n lo hi : Int) : Int := if (if hi < n then hi else n) > lo then (if hi < n then hi else n) else lo
def clampB (n lo hi : Int) : Int := if n < lo then lo else if n > hi then hi else n

theorem clampA_eq {n lo hi : Int} (h : lo ≤ hi) : clampA n lo hi = clampB n lo hi := by simp only [clampA, clampB]; split <;> split <;> (try split) <;> omega

def G.valid (g : G) : Bool := decide (g.low ≤ g.high) && inR g.low (-1073741824) 1073741824 && inR g.high (-1073741824) 1073741824 && inR g.base (-1073741824) 1073741824 &&
  inR g.watch 1 1048576 && inR g.idle 1 1048576 && inR g.rise 1 400000 && inR g.band 0 400000 && inR g.count 0 g.watch && inR g.quiet 0 g.idle && inR g.fault 0 4

theorem clampB_le {n lo hi : Int} (h : lo ≤ hi) : lo ≤ clampB n lo hi ∧ clampB n lo hi ≤ hi := by simp only [clampB]; split <;> (try split) <;> omega
theorem inR_iff {n lo hi : Int} : inR n lo hi = true ↔ lo ≤ n ∧ n ≤ hi := by simp [inR]

theorem G.valid_iff (g : G) : g.valid = true ↔ g.low ≤ g.high ∧ (-1073741824 ≤ g.low ∧ g.low ≤ 1073741824) ∧ (-1073741824 ≤ g.high ∧ g.high ≤ 1073741824) ∧ (-1073741824 ≤ g.base ∧ g.base ≤ 1073741824) ∧
    (1 ≤ g.watch ∧ g.watch ≤ 1048576) ∧ (1 ≤ g.idle ∧ g.idle ≤ 1048576) ∧ (1 ≤ g.rise ∧ g.rise ≤ 400000) ∧ (0 ≤ g.band ∧ g.band ≤ 400000) ∧ (0 ≤ g.count ∧ g.count ≤ g.watch) ∧ (0 ≤ g.quiet ∧ g.quiet ≤ g.idle) ∧ (0 ≤ g.fault ∧ g.fault ≤ 4) := by
  simp only [G.valid, Bool.and_eq_true, inR_iff, decide_eq_true_eq, and_assoc]

theorem wraps {g : G} (hv : g.valid = true) (t : Int) : IntKind.i64.wrap (g.quiet + 1) = g.quiet + 1 ∧ IntKind.i64.wrap (g.count + 1) = g.count + 1 ∧ IntKind.i64.wrap (g.base + g.rise) = g.base + g.rise ∧
    IntKind.i64.wrap (clampB t (-1073741824) 1073741824 - g.band) = clampB t (-1073741824) 1073741824 - g.band ∧ clampB (g.quiet + 1) 0 g.idle = (if g.idle ≤ g.quiet + 1 then g.idle else g.quiet + 1) := by
  have := (G.valid_iff g).mp hv
  have := clampB_le (n := t) (lo := -1073741824) (hi := 1073741824) (by omega)
  refine ⟨wrap64 (by omega) (by omega), wrap64 (by omega) (by omega), wrap64 (by omega) (by omega), wrap64 (by omega) (by omega), ?_⟩
  simp only [clampB]
  split <;> (try split) <;> (try split) <;> omega

def G.anew (g : G) (r : Int) : G := { g with base := r, count := 0 }

/-- Behind the tests: one more tick. -/
def G.tick (g : G) (d : Int) : G × Int :=
  if g.watch ≤ g.count + 1 then ({ g with count := g.watch, fault := 3 }, 0) else ({ g with count := g.count + 1 }, d)

def G.step (g : G) (r t d : Int) : G × Int :=
  if !g.valid || !(g.fault == 0) then (g, 0)
  else if r < g.low then ({ g with fault := 1 }, 0)
  else if g.high < r then ({ g with fault := 2 }, 0)
  else if g.idle ≤ g.quiet + 1 then ({ g with quiet := g.idle, base := r, count := 0 }, 0)
  else if g.door then ({ g with quiet := g.quiet + 1, base := r, count := 0 }, 0)
  else if clampB d 0 255 = 0 ∨ clampB t (-1073741824) 1073741824 - g.band ≤ r then ({ g with quiet := g.quiet + 1, base := r, count := 0 }, clampB d 0 255)
  else if g.base + g.rise ≤ r then G.tick { g with quiet := g.quiet + 1, base := r, count := 0 } (clampB d 0 255)
  else G.tick { g with quiet := g.quiet + 1 } (clampB d 0 255)

def G.touch (g : G) : G := if g.valid then { g with quiet := 0 } else g
def G.setDoor (g : G) (o : Bool) : G := if g.valid then { g with door := o } else g
def G.stop (g : G) : G := if g.valid then { g with fault := 4 } else g
def G.zero : G := ⟨0, 0, 0, 0, 0, 0, 0, 0, 0, 0, false⟩
def G.reset (g : G) (r : Int) : G × Int :=
  if !g.valid then (.zero, 1) else if g.fault == 0 then (.zero, 14) else if r < g.low ∨ g.high < r then (.zero, 16)
  else ({ g with base := r, count := 0, quiet := 0, fault := 0 }, 0)

/-- A fact on a function of guards. -/
def on3 (f : FuncId) (h : Int → Int → Int → SV) : Fact := ⟨f, fun args => match args with
  | [.int .i64 a, .int .i64 b, .int .i64 c] => some (.leaf (h a b c))
  | _ => none⟩
def onG (f : FuncId) (h : G → SV) : Fact := ⟨f, fun args => match args with
  | [.agg [.int .i64 a0, .int .i64 a1, .int .i64 a2, .int .i64 a3, .int .i64 a4, .int .i64 a5, .int .i64 a6, .int .i64 a7, .int .i64 a8, .int .i64 a9, .bool a10]] => some (.leaf (h ⟨a0, a1, a2, a3, a4, a5, a6, a7, a8, a9, a10⟩))
  | _ => none⟩
def onGI (f : FuncId) (h : G → Int → SV) : Fact := ⟨f, fun args => match args with
  | [.agg [.int .i64 a0, .int .i64 a1, .int .i64 a2, .int .i64 a3, .int .i64 a4, .int .i64 a5, .int .i64 a6, .int .i64 a7, .int .i64 a8, .int .i64 a9, .bool a10], .int .i64 r] => some (.leaf (h ⟨a0, a1, a2, a3, a4, a5, a6, a7, a8, a9, a10⟩ r))
  | _ => none⟩
def onGB (f : FuncId) (h : G → Bool → SV) : Fact := ⟨f, fun args => match args with
  | [.agg [.int .i64 a0, .int .i64 a1, .int .i64 a2, .int .i64 a3, .int .i64 a4, .int .i64 a5, .int .i64 a6, .int .i64 a7, .int .i64 a8, .int .i64 a9, .bool a10], .bool r] => some (.leaf (h ⟨a0, a1, a2, a3, a4, a5, a6, a7, a8, a9, a10⟩ r))
  | _ => none⟩
def onG3 (f : FuncId) (h : G → Int → Int → Int → SV) : Fact := ⟨f, fun args => match args with
  | [.agg [.int .i64 a0, .int .i64 a1, .int .i64 a2, .int .i64 a3, .int .i64 a4, .int .i64 a5, .int .i64 a6, .int .i64 a7, .int .i64 a8, .int .i64 a9, .bool a10], .int .i64 r, .int .i64 t, .int .i64 d] => some (.leaf (h ⟨a0, a1, a2, a3, a4, a5, a6, a7, a8, a9, a10⟩ r t d))
  | _ => none⟩
def on0 (f : FuncId) (v : SV) : Fact := ⟨f, fun args => match args with
  | [] => some (.leaf v)
  | _ => none⟩

theorem on3_ok {P : Program} {f : FuncId} {h : Int → Int → Int → SV} (k : ∀ a b c, SCall P f [i64 a, i64 b, i64 c] (h a b c)) : (on3 f h).ok P := fun args t ht => by
  simp only [on3] at ht
  split at ht
  · injection ht with ht; subst ht; exact k _ _ _
  · cases ht
theorem onG_ok {P : Program} {f : FuncId} {h : G → SV} (k : ∀ g, SCall P f [g.sv] (h g)) : (onG f h).ok P := fun args t ht => by
  simp only [onG] at ht
  split at ht
  · injection ht with ht; subst ht; exact k ⟨_, _, _, _, _, _, _, _, _, _, _⟩
  · cases ht
theorem onGI_ok {P : Program} {f : FuncId} {h : G → Int → SV} (k : ∀ g r, SCall P f [g.sv, i64 r] (h g r)) : (onGI f h).ok P := fun args t ht => by
  simp only [onGI] at ht
  split at ht
  · injection ht with ht; subst ht; exact k ⟨_, _, _, _, _, _, _, _, _, _, _⟩ _
  · cases ht
theorem onGB_ok {P : Program} {f : FuncId} {h : G → Bool → SV} (k : ∀ g r, SCall P f [g.sv, .bool r] (h g r)) : (onGB f h).ok P := fun args t ht => by
  simp only [onGB] at ht
  split at ht
  · injection ht with ht; subst ht; exact k ⟨_, _, _, _, _, _, _, _, _, _, _⟩ _
  · cases ht
theorem onG3_ok {P : Program} {f : FuncId} {h : G → Int → Int → Int → SV} (k : ∀ g r t d, SCall P f [g.sv, i64 r, i64 t, i64 d] (h g r t d)) : (onG3 f h).ok P := fun args t ht => by
  simp only [onG3] at ht
  split at ht
  · injection ht with ht; subst ht; exact k ⟨_, _, _, _, _, _, _, _, _, _, _⟩ _ _ _
  · cases ht
theorem on0_ok {P : Program} {f : FuncId} {v : SV} (k : SCall P f [] v) : (on0 f v).ok P := fun args t ht => by
  simp only [on0] at ht
  split at ht
  · injection ht with ht; subst ht; exact k
  · cases ht

def fWithin : Fact := on3 26 fun a b c => .bool (inR a b c)
def fIn : Fact := on3 27 fun a b c => .bool (inR a b c)
def fClampA : Fact := on3 24 fun a b c => i64 (clampA a b c)
def fClampB : Fact := on3 25 fun a b c => i64 (clampB a b c)
def fValid : Fact := onG 11 fun g => .bool g.valid
def fValidR : Fact := onG 12 fun g => .bool g.valid
def fRestart : Fact := onGI 23 fun g r => (g.anew r).sv
def fStep : Fact := onG3 9 fun g r t d => .tuple [(g.step r t d).1.sv, i64 (g.step r t d).2]
def fStepR : Fact := onG3 10 fun g r t d => .tuple [(g.step r t d).1.sv, i64 (g.step r t d).2]
def fReset : Fact := onGI 14 fun g r => .tuple [(g.reset r).1.sv, i64 (g.reset r).2]
def fResetR : Fact := onGI 15 fun g r => .tuple [(g.reset r).1.sv, i64 (g.reset r).2]
def fTouch : Fact := onG 16 fun g => g.touch.sv
def fTouchR : Fact := onG 17 fun g => g.touch.sv
def fDoor : Fact := onGB 18 fun g o => (g.setDoor o).sv
def fDoorR : Fact := onGB 19 fun g o => (g.setDoor o).sv
def fStop : Fact := onG 20 fun g => g.stop.sv
def fStopR : Fact := onG 21 fun g => g.stop.sv
def fAwake : Fact := on0 13 (.bool true)
end Go.Proofs.Ytmbjeajmiggbpaa
