/-
  G4: the laws without a loop, as contracts. Written by gen.py.
-/
import Derived.Test.YtmbjeajmiggbpaaG3
import Derived.Test.YtmbjeajmiggbpaaGL
set_option linter.unusedSimpArgs false
set_option linter.unusedVariables false
set_option maxRecDepth 100000
namespace Go.Proofs.Ytmbjeajmiggbpaa
open Go.Sx
theorem s_steps (g : G) (r t d : Int) : SCall Try.prog 3 [g.sv, i64 r, i64 t, i64 d] (.bool true) :=
  scall_v mix [fStep, fStepR, fValid, fValidR, fAwake] ⟨o_step, o_stepR, o_valid, o_validR, o_awake, trivial⟩ 1000 (.fork (.lit (.lit (.lit (.fork (.lit (.lit (.lit (.lit (.lit (.fork (.lit (.all)) (.lit (.all)))))))) (.lit (.lit (.lit (.lit (.lit (.lit (.lit (.all)))))))))))) (.lit (.lit (.lit (.lit (.lit (.lit (.lit (.lit (.lit (.lit (.lit (.all)))))))))))))
   (t := .node ((g.step r t d).fst.low == (g.step r t d).fst.low && ((g.step r t d).fst.high == (g.step r t d).fst.high && ((g.step r t d).fst.watch == (g.step r t d).fst.watch && ((g.step r t d).fst.rise == (g.step r t d).fst.rise && ((g.step r t d).fst.band == (g.step r t d).fst.band && ((g.step r t d).fst.base == (g.step r t d).fst.base && ((g.step r t d).fst.count == (g.step r t d).fst.count && ((g.step r t d).fst.idle == (g.step r t d).fst.idle && ((g.step r t d).fst.quiet == (g.step r t d).fst.quiet && ((g.step r t d).fst.fault == (g.step r t d).fst.fault && ((g.step r t d).fst.door == (g.step r t d).fst.door && true)))))))))))
 (.node ((g.step r t d).snd == (g.step r t d).snd)
  (.node (g.valid == g.valid)
   (.leaf (SV.bool true))
   (.leaf (SV.bool false)))
  (.leaf (SV.bool false)))
 (.leaf (SV.bool false)))
   (by kernel_rfl) (by 
    simp [Tree.holds]) (by kernel_rfl) (by kernel_rfl)
theorem s_sets (g : G) (r : Int) (o : Bool) : SCall Try.prog 5 [g.sv, i64 r, .bool o] (.bool true) :=
  scall_v mix [fReset, fResetR, fTouch, fTouchR, fDoor, fDoorR, fStop, fStopR, fAwake] ⟨o_reset, o_resetR, o_touch, o_touchR, o_door, o_doorR, o_stop, o_stopR, o_awake, trivial⟩ 1000 (.fork (.lit (.lit (.lit (.fork (.lit (.lit (.lit (.lit (.lit (.fork (.lit (.lit (.lit (.lit (.lit (.lit (.lit (.fork (.lit (.lit (.lit (.lit (.lit (.fork (.lit (.all)) (.lit (.all)))))))) (.lit (.lit (.lit (.lit (.lit (.lit (.lit (.all)))))))))))))))) (.lit (.lit (.lit (.lit (.lit (.lit (.lit (.lit (.lit (.lit (.lit (.lit (.lit (.lit (.lit (.all)))))))))))))))))))))) (.lit (.lit (.lit (.lit (.lit (.lit (.lit (.lit (.lit (.lit (.lit (.lit (.lit (.lit (.lit (.lit (.lit (.lit (.lit (.lit (.lit (.all)))))))))))))))))))))))))) (.lit (.lit (.lit (.lit (.lit (.lit (.lit (.lit (.lit (.lit (.lit (.lit (.lit (.lit (.lit (.lit (.lit (.lit (.lit (.lit (.lit (.lit (.lit (.lit (.lit (.all)))))))))))))))))))))))))))
   (t := .node ((g.reset r).fst.low == (g.reset r).fst.low && ((g.reset r).fst.high == (g.reset r).fst.high && ((g.reset r).fst.watch == (g.reset r).fst.watch && ((g.reset r).fst.rise == (g.reset r).fst.rise && ((g.reset r).fst.band == (g.reset r).fst.band && ((g.reset r).fst.base == (g.reset r).fst.base && ((g.reset r).fst.count == (g.reset r).fst.count && ((g.reset r).fst.idle == (g.reset r).fst.idle && ((g.reset r).fst.quiet == (g.reset r).fst.quiet && ((g.reset r).fst.fault == (g.reset r).fst.fault && ((g.reset r).fst.door == (g.reset r).fst.door && true)))))))))))
 (.node ((g.reset r).snd == (g.reset r).snd)
  (.node (g.touch.low == g.touch.low && (g.touch.high == g.touch.high && (g.touch.watch == g.touch.watch && (g.touch.rise == g.touch.rise && (g.touch.band == g.touch.band && (g.touch.base == g.touch.base && (g.touch.count == g.touch.count && (g.touch.idle == g.touch.idle && (g.touch.quiet == g.touch.quiet && (g.touch.fault == g.touch.fault && (g.touch.door == g.touch.door && true)))))))))))
   (.node ((g.setDoor o).low == (g.setDoor o).low && ((g.setDoor o).high == (g.setDoor o).high && ((g.setDoor o).watch == (g.setDoor o).watch && ((g.setDoor o).rise == (g.setDoor o).rise && ((g.setDoor o).band == (g.setDoor o).band && ((g.setDoor o).base == (g.setDoor o).base && ((g.setDoor o).count == (g.setDoor o).count && ((g.setDoor o).idle == (g.setDoor o).idle && ((g.setDoor o).quiet == (g.setDoor o).quiet && ((g.setDoor o).fault == (g.setDoor o).fault && ((g.setDoor o).door == (g.setDoor o).door && true)))))))))))
    (.node (g.stop.low == g.stop.low && (g.stop.high == g.stop.high && (g.stop.watch == g.stop.watch && (g.stop.rise == g.stop.rise && (g.stop.band == g.stop.band && (g.stop.base == g.stop.base && (g.stop.count == g.stop.count && (g.stop.idle == g.stop.idle && (g.stop.quiet == g.stop.quiet && (g.stop.fault == g.stop.fault && (g.stop.door == g.stop.door && true)))))))))))
     (.leaf (SV.bool true))
     (.leaf (SV.bool false)))
    (.leaf (SV.bool false)))
   (.leaf (SV.bool false)))
  (.leaf (SV.bool false)))
 (.leaf (SV.bool false)))
   (by kernel_rfl) (by 
    simp [Tree.holds]) (by kernel_rfl) (by kernel_rfl)
theorem s_stays (g : G) (r t d : Int) : SCall Try.prog 6 [g.sv, i64 r, i64 t, i64 d] (.bool true) :=
  scall_v mix [fStep, fValid, fTouch, fDoor, fStop, fReset, fAwake] ⟨o_step, o_valid, o_touch, o_door, o_stop, o_reset, o_awake, trivial⟩ 1000 (.fork (.fork (.lit (.lit (.fork (.lit (.all)) (.lit (.all))))) (.lit (.lit (.lit (.lit (.all)))))) (.fork (.lit (.lit (.lit (.lit (.lit (.lit (.lit (.lit (.lit (.lit (.lit (.lit (.lit (.lit (.lit (.lit (.lit (.lit (.lit (.lit (.lit (.lit (.all))))))))))))))))))))))) (.lit (.lit (.fork (.lit (.lit (.lit (.lit (.lit (.lit (.lit (.lit (.lit (.lit (.lit (.lit (.lit (.lit (.lit (.lit (.lit (.lit (.lit (.all)))))))))))))))))))) (.lit (.lit (.lit (.fork (.lit (.lit (.lit (.lit (.lit (.lit (.lit (.lit (.lit (.lit (.lit (.lit (.lit (.lit (.lit (.all)))))))))))))))) (.lit (.lit (.lit (.lit (.fork (.lit (.lit (.lit (.lit (.lit (.lit (.lit (.lit (.lit (.lit (.all))))))))))) (.lit (.lit (.lit (.lit (.fork (.lit (.lit (.lit (.lit (.lit (.all)))))) (.lit (.lit (.lit (.lit (.fork (.all) (.fork (.lit (.lit (.lit (.fork (.all) (.fork (.lit (.all)) (.lit (.all))))))) (.lit (.lit (.lit (.lit (.fork (.lit (.all)) (.lit (.all))))))))))))))))))))))))))))))))
   (t := .node (!g.valid)
 (.node ((g.step r t d).fst.low == g.low && ((g.step r t d).fst.high == g.high && ((g.step r t d).fst.watch == g.watch && ((g.step r t d).fst.rise == g.rise && ((g.step r t d).fst.band == g.band && ((g.step r t d).fst.base == g.base && ((g.step r t d).fst.count == g.count && ((g.step r t d).fst.idle == g.idle && ((g.step r t d).fst.quiet == g.quiet && ((g.step r t d).fst.fault == g.fault && ((g.step r t d).fst.door == g.door && true)))))))))))
  (.node ((g.step r t d).snd == 0)
   (.leaf (SV.bool true))
   (.leaf (SV.bool false)))
  (.leaf (SV.bool false)))
 (.node (decide ((g.step r t d).snd < 0))
  (.leaf (SV.bool false))
  (.node (decide ((g.step r t d).snd > 255))
   (.leaf (SV.bool false))
   (.node (!(g.step r t d).fst.valid)
    (.leaf (SV.bool false))
    (.node (!(g.step r t d).fst.touch.valid)
     (.leaf (SV.bool false))
     (.node (!((g.step r t d).fst.setDoor true).valid)
      (.leaf (SV.bool false))
      (.node (!(g.step r t d).fst.stop.valid)
       (.leaf (SV.bool false))
       (.node (((g.step r t d).fst.reset r).snd == 0)
        (.node (!((g.step r t d).fst.reset r).fst.valid)
         (.leaf (SV.bool false))
         (.node ((g.step r t d).fst.low == g.low && ((g.step r t d).fst.high == g.high && ((g.step r t d).fst.watch == g.watch && ((g.step r t d).fst.rise == g.rise && ((g.step r t d).fst.band == g.band && (g.base == g.base && (g.count == g.count && ((g.step r t d).fst.idle == g.idle && (g.quiet == g.quiet && (g.fault == g.fault && ((g.step r t d).fst.door == g.door && true)))))))))))
          (.leaf (SV.bool true))
          (.leaf (SV.bool false))))
        (.node ((g.step r t d).fst.low == g.low && ((g.step r t d).fst.high == g.high && ((g.step r t d).fst.watch == g.watch && ((g.step r t d).fst.rise == g.rise && ((g.step r t d).fst.band == g.band && (g.base == g.base && (g.count == g.count && ((g.step r t d).fst.idle == g.idle && (g.quiet == g.quiet && (g.fault == g.fault && ((g.step r t d).fst.door == g.door && true)))))))))))
         (.leaf (SV.bool true))
         (.leaf (SV.bool false)))))))))))
   (by kernel_rfl) (by 
    by_cases hv : g.valid = true
    · obtain ⟨a1, a2, a3, a4, a5, a6, a7, a8, a9, a10⟩ := step_ok hv r t d
      have b2 : decide ((g.step r t d).2 < 0) = false := decide_eq_false (by omega)
      have b3 : decide ((g.step r t d).2 > 255) = false := decide_eq_false (by omega)
      simp only [Tree.holds, hv, a1, b2, b3, a4, a5, a6, a7, a8, a9, a10, touch_ok a1, door_ok a1, stop_ok a1]
      simp
      exact fun h => (reset_ok h).2
    · have hv' : g.valid = false := by simpa using hv
      simp [Tree.holds, hv', step_off hv']) (by kernel_rfl) (by kernel_rfl)
end Go.Proofs.Ytmbjeajmiggbpaa
