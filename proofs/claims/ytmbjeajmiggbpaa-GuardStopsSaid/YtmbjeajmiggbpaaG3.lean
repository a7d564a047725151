/-
  G3: the contracts of the interlock and of its reference. Written by gen.py.
-/
import Derived.Test.YtmbjeajmiggbpaaG2
set_option linter.unusedSimpArgs false
set_option linter.unusedVariables false
set_option maxRecDepth 100000
namespace Go.Proofs.Ytmbjeajmiggbpaa
open Go.Sx
theorem s_step (g : G) (r t d : Int) : SCall Try.prog 9 [g.sv, i64 r, i64 t, i64 d] (.tuple [(g.step r t d).1.sv, i64 (g.step r t d).2]) :=
  scall_v mix [fClampA, fValid] ⟨o_clampA, o_valid, trivial⟩ 1000 (.fork (.lit (.lit (.lit (.lit (.all))))) (.lit (.lit (.lit (.fork (.all) (.fork (.lit (.all)) (.fork (.fork (.all) (.all)) (.fork (.all) (.fork (.all) (.fork (.lit (.lit (.lit (.lit (.lit (.lit (.lit (.all)))))))) (.lit (.lit (.lit (.lit (.lit (.lit (.fork (.all) (.fork (.fork (.all) (.all)) (.fork (.all) (.all))))))))))))))))))))
   (t := .node (!g.valid)
 (.leaf (SV.tuple [SV.agg [i64 g.low, i64 g.high, i64 g.watch, i64 g.rise, i64 g.band, i64 g.base, i64 g.count, i64 g.idle, i64 g.quiet, i64 g.fault, SV.bool g.door], i64 0]))
 (.node (g.fault != 0)
  (.leaf (SV.tuple [SV.agg [i64 g.low, i64 g.high, i64 g.watch, i64 g.rise, i64 g.band, i64 g.base, i64 g.count, i64 g.idle, i64 g.quiet, i64 g.fault, SV.bool g.door], i64 0]))
  (.node (decide (r < g.low))
   (.leaf (SV.tuple [SV.agg [i64 g.low, i64 g.high, i64 g.watch, i64 g.rise, i64 g.band, i64 g.base, i64 g.count, i64 g.idle, i64 g.quiet, i64 1, SV.bool g.door], i64 0]))
   (.node (decide (r > g.high))
    (.node (g.fault == 0)
     (.leaf (SV.tuple [SV.agg [i64 g.low, i64 g.high, i64 g.watch, i64 g.rise, i64 g.band, i64 g.base, i64 g.count, i64 g.idle, i64 g.quiet, i64 2, SV.bool g.door], i64 0]))
     (.leaf (SV.tuple [SV.agg [i64 g.low, i64 g.high, i64 g.watch, i64 g.rise, i64 g.band, i64 g.base, i64 g.count, i64 g.idle, i64 g.quiet, i64 g.fault, SV.bool g.door], i64 0])))
    (.node (decide (IntKind.i64.wrap (g.quiet + 1) ≥ g.idle))
     (.leaf (SV.tuple [SV.agg [i64 g.low, i64 g.high, i64 g.watch, i64 g.rise, i64 g.band, i64 r, i64 0, i64 g.idle, i64 g.idle, i64 g.fault, SV.bool g.door], i64 0]))
     (.node (g.door)
      (.leaf (SV.tuple [SV.agg [i64 g.low, i64 g.high, i64 g.watch, i64 g.rise, i64 g.band, i64 r, i64 0, i64 g.idle, i64 (IntKind.i64.wrap (g.quiet + 1)), i64 g.fault, SV.bool g.door], i64 0]))
      (.node (clampA d 0 255 == 0)
       (.leaf (SV.tuple [SV.agg [i64 g.low, i64 g.high, i64 g.watch, i64 g.rise, i64 g.band, i64 r, i64 0, i64 g.idle, i64 (IntKind.i64.wrap (g.quiet + 1)), i64 g.fault, SV.bool g.door], i64 (clampA d 0 255)]))
       (.node (decide (r ≥ IntKind.i64.wrap (clampA t (-1073741824) 1073741824 - g.band)))
        (.leaf (SV.tuple [SV.agg [i64 g.low, i64 g.high, i64 g.watch, i64 g.rise, i64 g.band, i64 r, i64 0, i64 g.idle, i64 (IntKind.i64.wrap (g.quiet + 1)), i64 g.fault, SV.bool g.door], i64 (clampA d 0 255)]))
        (.node (decide (r ≥ IntKind.i64.wrap (g.base + g.rise)))
         (.node (decide (IntKind.i64.wrap (0 + 1) ≥ g.watch))
          (.leaf (SV.tuple [SV.agg [i64 g.low, i64 g.high, i64 g.watch, i64 g.rise, i64 g.band, i64 r, i64 g.watch, i64 g.idle, i64 (IntKind.i64.wrap (g.quiet + 1)), i64 3, SV.bool g.door], i64 0]))
          (.leaf (SV.tuple [SV.agg [i64 g.low, i64 g.high, i64 g.watch, i64 g.rise, i64 g.band, i64 r, i64 1, i64 g.idle, i64 (IntKind.i64.wrap (g.quiet + 1)), i64 g.fault, SV.bool g.door], i64 (clampA d 0 255)])))
         (.node (decide (IntKind.i64.wrap (g.count + 1) ≥ g.watch))
          (.leaf (SV.tuple [SV.agg [i64 g.low, i64 g.high, i64 g.watch, i64 g.rise, i64 g.band, i64 g.base, i64 g.watch, i64 g.idle, i64 (IntKind.i64.wrap (g.quiet + 1)), i64 3, SV.bool g.door], i64 0]))
          (.leaf (SV.tuple [SV.agg [i64 g.low, i64 g.high, i64 g.watch, i64 g.rise, i64 g.band, i64 g.base, i64 (IntKind.i64.wrap (g.count + 1)), i64 g.idle, i64 (IntKind.i64.wrap (g.quiet + 1)), i64 g.fault, SV.bool g.door], i64 (clampA d 0 255)]))))))))))))
   (by kernel_rfl) (by 
    by_cases hv : g.valid = true
    · obtain ⟨w1, w2, w3, w4, w5⟩ := wraps hv t
      have v := (G.valid_iff g).mp hv
      have w6 : IntKind.i64.wrap (0 + 1) = 1 := by decide
      simp only [Tree.holds, clampA_eq (show (0 : Int) ≤ 255 by omega), clampA_eq (show (-1073741824 : Int) ≤ 1073741824 by omega), w1, w2, w3, w4, w5, w6, hv]
      simp only [G.step, G.tick, hv]
      repeat' (first | apply And.intro | intro _)
      all_goals (simp_all [G.sv, G.cells, i64]; try grind)
    · simp only [Bool.not_eq_true] at hv
      simp only [Tree.holds, hv]
      simp [G.step, G.sv, G.cells, hv]) (by kernel_rfl) (by kernel_rfl)
theorem o_step : fStep.ok Try.prog := onG3_ok s_step
theorem s_stepR (g : G) (r t d : Int) : SCall Try.prog 10 [g.sv, i64 r, i64 t, i64 d] (.tuple [(g.step r t d).1.sv, i64 (g.step r t d).2]) :=
  scall_v mix [fClampB, fValidR] ⟨o_clampB, o_validR, trivial⟩ 1000 (.fork (.lit (.lit (.lit (.lit (.all))))) (.lit (.lit (.lit (.fork (.all) (.fork (.lit (.lit (.lit (.lit (.lit (.fork (.all) (.all))))))) (.lit (.lit (.lit (.lit (.fork (.fork (.all) (.all)) (.fork (.lit (.lit (.lit (.lit (.lit (.lit (.lit (.lit (.lit (.lit (.lit (.lit (.lit (.fork (.lit (.lit (.lit (.all)))) (.lit (.lit (.fork (.all) (.all)))))))))))))))))) (.lit (.lit (.fork (.lit (.lit (.lit (.lit (.lit (.lit (.lit (.lit (.lit (.lit (.fork (.lit (.lit (.lit (.all)))) (.lit (.lit (.fork (.all) (.all))))))))))))))) (.lit (.lit (.fork (.lit (.lit (.lit (.lit (.lit (.lit (.lit (.fork (.lit (.lit (.lit (.all)))) (.lit (.lit (.fork (.all) (.all)))))))))))) (.lit (.lit (.lit (.lit (.lit (.lit (.fork (.fork (.lit (.lit (.lit (.all)))) (.lit (.lit (.fork (.all) (.all))))) (.fork (.fork (.all) (.all)) (.fork (.all) (.all))))))))))))))))))))))))))))
   (t := .node (!g.valid)
 (.leaf (SV.tuple [SV.agg [i64 g.low, i64 g.high, i64 g.watch, i64 g.rise, i64 g.band, i64 g.base, i64 g.count, i64 g.idle, i64 g.quiet, i64 g.fault, SV.bool g.door], i64 0]))
 (.node (g.fault != 0)
  (.leaf (SV.tuple [SV.agg [i64 g.low, i64 g.high, i64 g.watch, i64 g.rise, i64 g.band, i64 g.base, i64 g.count, i64 g.idle, i64 g.quiet, i64 g.fault, SV.bool g.door], i64 0]))
  (.node (decide (r < g.low))
   (.node (decide (r < g.low))
    (.leaf (SV.tuple [SV.agg [i64 g.low, i64 g.high, i64 g.watch, i64 g.rise, i64 g.band, i64 g.base, i64 g.count, i64 g.idle, i64 g.quiet, i64 1, SV.bool g.door], i64 0]))
    (.leaf (SV.tuple [SV.agg [i64 g.low, i64 g.high, i64 g.watch, i64 g.rise, i64 g.band, i64 g.base, i64 g.count, i64 g.idle, i64 g.quiet, i64 2, SV.bool g.door], i64 0])))
   (.node (decide (r > g.high))
    (.node (decide (r < g.low))
     (.leaf (SV.tuple [SV.agg [i64 g.low, i64 g.high, i64 g.watch, i64 g.rise, i64 g.band, i64 g.base, i64 g.count, i64 g.idle, i64 g.quiet, i64 1, SV.bool g.door], i64 0]))
     (.leaf (SV.tuple [SV.agg [i64 g.low, i64 g.high, i64 g.watch, i64 g.rise, i64 g.band, i64 g.base, i64 g.count, i64 g.idle, i64 g.quiet, i64 2, SV.bool g.door], i64 0])))
    (.node (decide (IntKind.i64.wrap (g.quiet + 1) ≥ g.idle))
     (.node (decide (IntKind.i64.wrap (g.quiet + 1) ≥ g.idle))
      (.leaf (SV.tuple [SV.agg [i64 g.low, i64 g.high, i64 g.watch, i64 g.rise, i64 g.band, i64 r, i64 0, i64 g.idle, i64 (clampB (IntKind.i64.wrap (g.quiet + 1)) 0 g.idle), i64 g.fault, SV.bool g.door], i64 0]))
      (.node (g.door)
       (.leaf (SV.tuple [SV.agg [i64 g.low, i64 g.high, i64 g.watch, i64 g.rise, i64 g.band, i64 r, i64 0, i64 g.idle, i64 (clampB (IntKind.i64.wrap (g.quiet + 1)) 0 g.idle), i64 g.fault, SV.bool g.door], i64 0]))
       (.leaf (SV.tuple [SV.agg [i64 g.low, i64 g.high, i64 g.watch, i64 g.rise, i64 g.band, i64 r, i64 0, i64 g.idle, i64 (clampB (IntKind.i64.wrap (g.quiet + 1)) 0 g.idle), i64 g.fault, SV.bool g.door], i64 (clampB d 0 255)]))))
     (.node (g.door)
      (.node (decide (IntKind.i64.wrap (g.quiet + 1) ≥ g.idle))
       (.leaf (SV.tuple [SV.agg [i64 g.low, i64 g.high, i64 g.watch, i64 g.rise, i64 g.band, i64 r, i64 0, i64 g.idle, i64 (clampB (IntKind.i64.wrap (g.quiet + 1)) 0 g.idle), i64 g.fault, SV.bool g.door], i64 0]))
       (.node (g.door)
        (.leaf (SV.tuple [SV.agg [i64 g.low, i64 g.high, i64 g.watch, i64 g.rise, i64 g.band, i64 r, i64 0, i64 g.idle, i64 (clampB (IntKind.i64.wrap (g.quiet + 1)) 0 g.idle), i64 g.fault, SV.bool g.door], i64 0]))
        (.leaf (SV.tuple [SV.agg [i64 g.low, i64 g.high, i64 g.watch, i64 g.rise, i64 g.band, i64 r, i64 0, i64 g.idle, i64 (clampB (IntKind.i64.wrap (g.quiet + 1)) 0 g.idle), i64 g.fault, SV.bool g.door], i64 (clampB d 0 255)]))))
      (.node (clampB d 0 255 == 0)
       (.node (decide (IntKind.i64.wrap (g.quiet + 1) ≥ g.idle))
        (.leaf (SV.tuple [SV.agg [i64 g.low, i64 g.high, i64 g.watch, i64 g.rise, i64 g.band, i64 r, i64 0, i64 g.idle, i64 (clampB (IntKind.i64.wrap (g.quiet + 1)) 0 g.idle), i64 g.fault, SV.bool g.door], i64 0]))
        (.node (g.door)
         (.leaf (SV.tuple [SV.agg [i64 g.low, i64 g.high, i64 g.watch, i64 g.rise, i64 g.band, i64 r, i64 0, i64 g.idle, i64 (clampB (IntKind.i64.wrap (g.quiet + 1)) 0 g.idle), i64 g.fault, SV.bool g.door], i64 0]))
         (.leaf (SV.tuple [SV.agg [i64 g.low, i64 g.high, i64 g.watch, i64 g.rise, i64 g.band, i64 r, i64 0, i64 g.idle, i64 (clampB (IntKind.i64.wrap (g.quiet + 1)) 0 g.idle), i64 g.fault, SV.bool g.door], i64 (clampB d 0 255)]))))
       (.node (decide (r ≥ IntKind.i64.wrap (clampB t (-1073741824) 1073741824 - g.band)))
        (.node (decide (IntKind.i64.wrap (g.quiet + 1) ≥ g.idle))
         (.leaf (SV.tuple [SV.agg [i64 g.low, i64 g.high, i64 g.watch, i64 g.rise, i64 g.band, i64 r, i64 0, i64 g.idle, i64 (clampB (IntKind.i64.wrap (g.quiet + 1)) 0 g.idle), i64 g.fault, SV.bool g.door], i64 0]))
         (.node (g.door)
          (.leaf (SV.tuple [SV.agg [i64 g.low, i64 g.high, i64 g.watch, i64 g.rise, i64 g.band, i64 r, i64 0, i64 g.idle, i64 (clampB (IntKind.i64.wrap (g.quiet + 1)) 0 g.idle), i64 g.fault, SV.bool g.door], i64 0]))
          (.leaf (SV.tuple [SV.agg [i64 g.low, i64 g.high, i64 g.watch, i64 g.rise, i64 g.band, i64 r, i64 0, i64 g.idle, i64 (clampB (IntKind.i64.wrap (g.quiet + 1)) 0 g.idle), i64 g.fault, SV.bool g.door], i64 (clampB d 0 255)]))))
        (.node (decide (r ≥ IntKind.i64.wrap (g.base + g.rise)))
         (.node (decide (IntKind.i64.wrap (0 + 1) ≥ g.watch))
          (.leaf (SV.tuple [SV.agg [i64 g.low, i64 g.high, i64 g.watch, i64 g.rise, i64 g.band, i64 r, i64 g.watch, i64 g.idle, i64 (IntKind.i64.wrap (g.quiet + 1)), i64 3, SV.bool g.door], i64 0]))
          (.leaf (SV.tuple [SV.agg [i64 g.low, i64 g.high, i64 g.watch, i64 g.rise, i64 g.band, i64 r, i64 1, i64 g.idle, i64 (IntKind.i64.wrap (g.quiet + 1)), i64 g.fault, SV.bool g.door], i64 (clampB d 0 255)])))
         (.node (decide (IntKind.i64.wrap (g.count + 1) ≥ g.watch))
          (.leaf (SV.tuple [SV.agg [i64 g.low, i64 g.high, i64 g.watch, i64 g.rise, i64 g.band, i64 g.base, i64 g.watch, i64 g.idle, i64 (IntKind.i64.wrap (g.quiet + 1)), i64 3, SV.bool g.door], i64 0]))
          (.leaf (SV.tuple [SV.agg [i64 g.low, i64 g.high, i64 g.watch, i64 g.rise, i64 g.band, i64 g.base, i64 (IntKind.i64.wrap (g.count + 1)), i64 g.idle, i64 (IntKind.i64.wrap (g.quiet + 1)), i64 g.fault, SV.bool g.door], i64 (clampB d 0 255)]))))))))))))
   (by kernel_rfl) (by 
    by_cases hv : g.valid = true
    · obtain ⟨w1, w2, w3, w4, w5⟩ := wraps hv t
      have v := (G.valid_iff g).mp hv
      have w6 : IntKind.i64.wrap (0 + 1) = 1 := by decide
      simp only [Tree.holds, clampA_eq (show (0 : Int) ≤ 255 by omega), clampA_eq (show (-1073741824 : Int) ≤ 1073741824 by omega), w1, w2, w3, w4, w5, w6, hv]
      simp only [G.step, G.tick, hv]
      repeat' (first | apply And.intro | intro _)
      all_goals (simp_all [G.sv, G.cells, i64]; try grind)
    · simp only [Bool.not_eq_true] at hv
      simp only [Tree.holds, hv]
      simp [G.step, G.sv, G.cells, hv]) (by kernel_rfl) (by kernel_rfl)
theorem o_stepR : fStepR.ok Try.prog := onG3_ok s_stepR
theorem s_reset (g : G) (r : Int) : SCall Try.prog 14 [g.sv, i64 r] (.tuple [(g.reset r).1.sv, i64 (g.reset r).2]) :=
  scall_v mix [fValid] ⟨o_valid, trivial⟩ 1000 (.fork (.all) (.fork (.all) (.fork (.lit (.lit (.lit (.lit (.lit (.all)))))) (.lit (.lit (.lit (.lit (.fork (.all) (.all)))))))))
   (t := .node (!g.valid)
 (.leaf (SV.tuple [SV.agg [i64 0, i64 0, i64 0, i64 0, i64 0, i64 0, i64 0, i64 0, i64 0, i64 0, SV.bool false], i64 1]))
 (.node (g.fault == 0)
  (.leaf (SV.tuple [SV.agg [i64 0, i64 0, i64 0, i64 0, i64 0, i64 0, i64 0, i64 0, i64 0, i64 0, SV.bool false], i64 14]))
  (.node (decide (r < g.low))
   (.leaf (SV.tuple [SV.agg [i64 0, i64 0, i64 0, i64 0, i64 0, i64 0, i64 0, i64 0, i64 0, i64 0, SV.bool false], i64 16]))
   (.node (decide (r > g.high))
    (.leaf (SV.tuple [SV.agg [i64 0, i64 0, i64 0, i64 0, i64 0, i64 0, i64 0, i64 0, i64 0, i64 0, SV.bool false], i64 16]))
    (.leaf (SV.tuple [SV.agg [i64 g.low, i64 g.high, i64 g.watch, i64 g.rise, i64 g.band, i64 r, i64 0, i64 g.idle, i64 0, i64 0, SV.bool g.door], i64 0]))))))
   (by kernel_rfl) (by 
    simp only [Tree.holds]
    repeat' (first | apply And.intro | intro _)
    all_goals (simp_all [G.reset, G.touch, G.setDoor, G.stop, G.zero, G.sv, G.cells, i64]; try grind)) (by kernel_rfl) (by kernel_rfl)
theorem o_reset : fReset.ok Try.prog := onGI_ok s_reset
theorem s_touch (g : G) : SCall Try.prog 16 [g.sv] (g.touch.sv) :=
  scall_v mix [fValid] ⟨o_valid, trivial⟩ 1000 (.fork (.all) (.all))
   (t := .node (g.valid)
 (.leaf (SV.agg [i64 g.low, i64 g.high, i64 g.watch, i64 g.rise, i64 g.band, i64 g.base, i64 g.count, i64 g.idle, i64 0, i64 g.fault, SV.bool g.door]))
 (.leaf (SV.agg [i64 g.low, i64 g.high, i64 g.watch, i64 g.rise, i64 g.band, i64 g.base, i64 g.count, i64 g.idle, i64 g.quiet, i64 g.fault, SV.bool g.door])))
   (by kernel_rfl) (by 
    simp only [Tree.holds]
    repeat' (first | apply And.intro | intro _)
    all_goals (simp_all [G.reset, G.touch, G.setDoor, G.stop, G.zero, G.sv, G.cells, i64]; try grind)) (by kernel_rfl) (by kernel_rfl)
theorem o_touch : fTouch.ok Try.prog := onG_ok s_touch
theorem s_door (g : G) (o : Bool) : SCall Try.prog 18 [g.sv, .bool o] ((g.setDoor o).sv) :=
  scall_v mix [fValid] ⟨o_valid, trivial⟩ 1000 (.fork (.all) (.all))
   (t := .node (g.valid)
 (.leaf (SV.agg [i64 g.low, i64 g.high, i64 g.watch, i64 g.rise, i64 g.band, i64 g.base, i64 g.count, i64 g.idle, i64 g.quiet, i64 g.fault, SV.bool o]))
 (.leaf (SV.agg [i64 g.low, i64 g.high, i64 g.watch, i64 g.rise, i64 g.band, i64 g.base, i64 g.count, i64 g.idle, i64 g.quiet, i64 g.fault, SV.bool g.door])))
   (by kernel_rfl) (by 
    simp only [Tree.holds]
    repeat' (first | apply And.intro | intro _)
    all_goals (simp_all [G.reset, G.touch, G.setDoor, G.stop, G.zero, G.sv, G.cells, i64]; try grind)) (by kernel_rfl) (by kernel_rfl)
theorem o_door : fDoor.ok Try.prog := onGB_ok s_door
theorem s_stop (g : G) : SCall Try.prog 20 [g.sv] (g.stop.sv) :=
  scall_v mix [fValid] ⟨o_valid, trivial⟩ 1000 (.fork (.all) (.all))
   (t := .node (g.valid)
 (.leaf (SV.agg [i64 g.low, i64 g.high, i64 g.watch, i64 g.rise, i64 g.band, i64 g.base, i64 g.count, i64 g.idle, i64 g.quiet, i64 4, SV.bool g.door]))
 (.leaf (SV.agg [i64 g.low, i64 g.high, i64 g.watch, i64 g.rise, i64 g.band, i64 g.base, i64 g.count, i64 g.idle, i64 g.quiet, i64 g.fault, SV.bool g.door])))
   (by kernel_rfl) (by 
    simp only [Tree.holds]
    repeat' (first | apply And.intro | intro _)
    all_goals (simp_all [G.reset, G.touch, G.setDoor, G.stop, G.zero, G.sv, G.cells, i64]; try grind)) (by kernel_rfl) (by kernel_rfl)
theorem o_stop : fStop.ok Try.prog := onG_ok s_stop
theorem s_resetR (g : G) (r : Int) : SCall Try.prog 15 [g.sv, i64 r] (.tuple [(g.reset r).1.sv, i64 (g.reset r).2]) :=
  scall_v mix [fValidR] ⟨o_validR, trivial⟩ 1000 (.fork (.all) (.fork (.all) (.fork (.lit (.lit (.lit (.lit (.lit (.all)))))) (.lit (.lit (.lit (.lit (.fork (.all) (.all)))))))))
   (t := .node (!g.valid)
 (.leaf (SV.tuple [SV.agg [i64 0, i64 0, i64 0, i64 0, i64 0, i64 0, i64 0, i64 0, i64 0, i64 0, SV.bool false], i64 1]))
 (.node (g.fault == 0)
  (.leaf (SV.tuple [SV.agg [i64 0, i64 0, i64 0, i64 0, i64 0, i64 0, i64 0, i64 0, i64 0, i64 0, SV.bool false], i64 14]))
  (.node (decide (r < g.low))
   (.leaf (SV.tuple [SV.agg [i64 0, i64 0, i64 0, i64 0, i64 0, i64 0, i64 0, i64 0, i64 0, i64 0, SV.bool false], i64 16]))
   (.node (decide (r > g.high))
    (.leaf (SV.tuple [SV.agg [i64 0, i64 0, i64 0, i64 0, i64 0, i64 0, i64 0, i64 0, i64 0, i64 0, SV.bool false], i64 16]))
    (.leaf (SV.tuple [SV.agg [i64 g.low, i64 g.high, i64 g.watch, i64 g.rise, i64 g.band, i64 r, i64 0, i64 g.idle, i64 0, i64 0, SV.bool g.door], i64 0]))))))
   (by kernel_rfl) (by 
    simp only [Tree.holds]
    repeat' (first | apply And.intro | intro _)
    all_goals (simp_all [G.reset, G.touch, G.setDoor, G.stop, G.zero, G.sv, G.cells, i64]; try grind)) (by kernel_rfl) (by kernel_rfl)
theorem o_resetR : fResetR.ok Try.prog := onGI_ok s_resetR
theorem s_touchR (g : G) : SCall Try.prog 17 [g.sv] (g.touch.sv) :=
  scall_v mix [fValidR] ⟨o_validR, trivial⟩ 1000 (.fork (.all) (.all))
   (t := .node (g.valid)
 (.leaf (SV.agg [i64 g.low, i64 g.high, i64 g.watch, i64 g.rise, i64 g.band, i64 g.base, i64 g.count, i64 g.idle, i64 0, i64 g.fault, SV.bool g.door]))
 (.leaf (SV.agg [i64 g.low, i64 g.high, i64 g.watch, i64 g.rise, i64 g.band, i64 g.base, i64 g.count, i64 g.idle, i64 g.quiet, i64 g.fault, SV.bool g.door])))
   (by kernel_rfl) (by 
    simp only [Tree.holds]
    repeat' (first | apply And.intro | intro _)
    all_goals (simp_all [G.reset, G.touch, G.setDoor, G.stop, G.zero, G.sv, G.cells, i64]; try grind)) (by kernel_rfl) (by kernel_rfl)
theorem o_touchR : fTouchR.ok Try.prog := onG_ok s_touchR
theorem s_doorR (g : G) (o : Bool) : SCall Try.prog 19 [g.sv, .bool o] ((g.setDoor o).sv) :=
  scall_v mix [fValidR] ⟨o_validR, trivial⟩ 1000 (.fork (.all) (.all))
   (t := .node (g.valid)
 (.leaf (SV.agg [i64 g.low, i64 g.high, i64 g.watch, i64 g.rise, i64 g.band, i64 g.base, i64 g.count, i64 g.idle, i64 g.quiet, i64 g.fault, SV.bool o]))
 (.leaf (SV.agg [i64 g.low, i64 g.high, i64 g.watch, i64 g.rise, i64 g.band, i64 g.base, i64 g.count, i64 g.idle, i64 g.quiet, i64 g.fault, SV.bool g.door])))
   (by kernel_rfl) (by 
    simp only [Tree.holds]
    repeat' (first | apply And.intro | intro _)
    all_goals (simp_all [G.reset, G.touch, G.setDoor, G.stop, G.zero, G.sv, G.cells, i64]; try grind)) (by kernel_rfl) (by kernel_rfl)
theorem o_doorR : fDoorR.ok Try.prog := onGB_ok s_doorR
theorem s_stopR (g : G) : SCall Try.prog 21 [g.sv] (g.stop.sv) :=
  scall_v mix [fValidR] ⟨o_validR, trivial⟩ 1000 (.fork (.all) (.all))
   (t := .node (g.valid)
 (.leaf (SV.agg [i64 g.low, i64 g.high, i64 g.watch, i64 g.rise, i64 g.band, i64 g.base, i64 g.count, i64 g.idle, i64 g.quiet, i64 4, SV.bool g.door]))
 (.leaf (SV.agg [i64 g.low, i64 g.high, i64 g.watch, i64 g.rise, i64 g.band, i64 g.base, i64 g.count, i64 g.idle, i64 g.quiet, i64 g.fault, SV.bool g.door])))
   (by kernel_rfl) (by 
    simp only [Tree.holds]
    repeat' (first | apply And.intro | intro _)
    all_goals (simp_all [G.reset, G.touch, G.setDoor, G.stop, G.zero, G.sv, G.cells, i64]; try grind)) (by kernel_rfl) (by kernel_rfl)
theorem o_stopR : fStopR.ok Try.prog := onG_ok s_stopR
theorem s_awake  : SCall Try.prog 13 [] (.bool true) :=
  scall_v mix [] trivial 10000 (.auto)
   (t := .leaf (SV.bool true))
   (by kernel_rfl) (by exact rfl) (by kernel_rfl) (by kernel_rfl)
theorem o_awake : fAwake.ok Try.prog := on0_ok s_awake
end Go.Proofs.Ytmbjeajmiggbpaa
