/-
  What the row asks of the program, each fact once: so that no one declaration grows too great for the kernel.
-/
import Derived.Test.YthhncpfcimmnjaaGreatDoorRows
import Derived.JoinedOf
import Derived.KernelRfl
set_option linter.unusedVariables false
set_option maxRecDepth 100000
namespace Go.Proofs.YthhncpfcimmnjaaGreatDoor
open Go

theorem all_part {p : Nat → Bool} (a : Nat) (k : Nat) (h : ((List.range k).all fun i => p (a + i)) = true) (i : Nat) (h1 : a ≤ i) (h2 : i < a + k) : p i = true := by
  have := List.all_eq_true.1 h (i - a) (List.mem_range.2 (by omega)); rwa [show a + (i - a) = i by omega] at this
theorem wa_size : Tryz.prog.types.size = 780 := by kernel_rfl
theorem wa_fsize : Tryz.prog.funcs.size = 718 := by kernel_rfl
theorem wa_l0 : ((List.range 40).all fun i => rowFine Tryz.prog (0 + i)) = true := by kernel_rfl
theorem wa_l40 : ((List.range 40).all fun i => rowFine Tryz.prog (40 + i)) = true := by kernel_rfl
theorem wa_l80 : ((List.range 40).all fun i => rowFine Tryz.prog (80 + i)) = true := by kernel_rfl
theorem wa_l120 : ((List.range 40).all fun i => rowFine Tryz.prog (120 + i)) = true := by kernel_rfl
theorem wa_l160 : ((List.range 40).all fun i => rowFine Tryz.prog (160 + i)) = true := by kernel_rfl
theorem wa_l200 : ((List.range 40).all fun i => rowFine Tryz.prog (200 + i)) = true := by kernel_rfl
theorem wa_l240 : ((List.range 40).all fun i => rowFine Tryz.prog (240 + i)) = true := by kernel_rfl
theorem wa_l280 : ((List.range 40).all fun i => rowFine Tryz.prog (280 + i)) = true := by kernel_rfl
theorem wa_l320 : ((List.range 40).all fun i => rowFine Tryz.prog (320 + i)) = true := by kernel_rfl
theorem wa_l360 : ((List.range 40).all fun i => rowFine Tryz.prog (360 + i)) = true := by kernel_rfl
theorem wa_l400 : ((List.range 40).all fun i => rowFine Tryz.prog (400 + i)) = true := by kernel_rfl
theorem wa_l440 : ((List.range 40).all fun i => rowFine Tryz.prog (440 + i)) = true := by kernel_rfl
theorem wa_l480 : ((List.range 40).all fun i => rowFine Tryz.prog (480 + i)) = true := by kernel_rfl
theorem wa_l520 : ((List.range 40).all fun i => rowFine Tryz.prog (520 + i)) = true := by kernel_rfl
theorem wa_l560 : ((List.range 40).all fun i => rowFine Tryz.prog (560 + i)) = true := by kernel_rfl
theorem wa_l600 : ((List.range 40).all fun i => rowFine Tryz.prog (600 + i)) = true := by kernel_rfl
theorem wa_l640 : ((List.range 40).all fun i => rowFine Tryz.prog (640 + i)) = true := by kernel_rfl
theorem wa_l680 : ((List.range 40).all fun i => rowFine Tryz.prog (680 + i)) = true := by kernel_rfl
theorem wa_l720 : ((List.range 40).all fun i => rowFine Tryz.prog (720 + i)) = true := by kernel_rfl
theorem wa_l760 : ((List.range 20).all fun i => rowFine Tryz.prog (760 + i)) = true := by kernel_rfl
theorem wa_l (t : Nat) (ht : t < 780) : rowFine Tryz.prog t = true := by
  by_cases h0 : t < 40
  · exact all_part 0 40 wa_l0 t (by omega) h0
  by_cases h40 : t < 80
  · exact all_part 40 40 wa_l40 t (by omega) h40
  by_cases h80 : t < 120
  · exact all_part 80 40 wa_l80 t (by omega) h80
  by_cases h120 : t < 160
  · exact all_part 120 40 wa_l120 t (by omega) h120
  by_cases h160 : t < 200
  · exact all_part 160 40 wa_l160 t (by omega) h160
  by_cases h200 : t < 240
  · exact all_part 200 40 wa_l200 t (by omega) h200
  by_cases h240 : t < 280
  · exact all_part 240 40 wa_l240 t (by omega) h240
  by_cases h280 : t < 320
  · exact all_part 280 40 wa_l280 t (by omega) h280
  by_cases h320 : t < 360
  · exact all_part 320 40 wa_l320 t (by omega) h320
  by_cases h360 : t < 400
  · exact all_part 360 40 wa_l360 t (by omega) h360
  by_cases h400 : t < 440
  · exact all_part 400 40 wa_l400 t (by omega) h400
  by_cases h440 : t < 480
  · exact all_part 440 40 wa_l440 t (by omega) h440
  by_cases h480 : t < 520
  · exact all_part 480 40 wa_l480 t (by omega) h480
  by_cases h520 : t < 560
  · exact all_part 520 40 wa_l520 t (by omega) h520
  by_cases h560 : t < 600
  · exact all_part 560 40 wa_l560 t (by omega) h560
  by_cases h600 : t < 640
  · exact all_part 600 40 wa_l600 t (by omega) h600
  by_cases h640 : t < 680
  · exact all_part 640 40 wa_l640 t (by omega) h640
  by_cases h680 : t < 720
  · exact all_part 680 40 wa_l680 t (by omega) h680
  by_cases h720 : t < 760
  · exact all_part 720 40 wa_l720 t (by omega) h720
  by_cases h760 : t < 780
  · exact all_part 760 20 wa_l760 t (by omega) h760
  exact absurd ht (by omega)
theorem wa_g : Tryz.prog.globals.all (fun g => decide (g.type < Tryz.prog.types.size)) = true := by kernel_rfl
theorem wa_f : Tryz.prog.funcs.all (fun f => f.params.all fun t => decide (t < Tryz.prog.types.size)) = true := by kernel_rfl
theorem wa_laid : laidOutB Tryz.prog = true := by
  unfold laidOutB; rw [wa_g, wa_f, Bool.and_true, Bool.and_true, wa_size]
  exact List.all_eq_true.2 fun t ht => wa_l t (List.mem_range.1 ht)
theorem wa_maps : mapsRowed Tryz.prog = true := by kernel_rfl
theorem wa_stops : (Tryz.prog.stops == []) = true := by kernel_rfl
theorem wa_knobs : (Tryz.prog.stopKnobs == []) = true := by kernel_rfl
theorem wa_heard : Tryz.prog.stopsHeard = true := by kernel_rfl
theorem wa_enter : Tryz.prog.mayEnter = true := by kernel_rfl
theorem wa_make : (Tryz.prog.make == some Rows.printerNewsRow.make) = true := by kernel_rfl
theorem wa_keys : (Rows.printerNewsRow.plainKeys == Tryz.prog.plainKeys) = true := by kernel_rfl
theorem wa_lifted : (Rows.printerNewsRow.lifted == Tryz.prog.liftsFinal) = true := by kernel_rfl
theorem joined_of {P : Program} {f : FuncId} {fn : Func} {s : ChangeSpec} {c : OpenClaim}
    (h1 : c.wf (OpenSpec.ofChange s) = true) (h2 : laidOutB P = true) (h3 : mapsRowed P = true) (h4 : fn.params.all (P.readableRec ·) = true) (h5 : namedTie P c.named s.vars = true)
    (h6 : (c.stops == []) = true) (h7 : (P.stops == []) = true) (h8 : (c.knobs == []) = true) (h9 : (P.stopKnobs == []) = true)
    (h10 : (c.inPlace == P.inPlace f) = true) (h11 : (c.unfollowed == P.unfollowed f) = true) (h12 : (c.recurses == P.recurses f) = true) (h13 : (c.named == P.varsNamed f) = true)
    (h14 : (c.maps == (fn.params.toList ++ s.plain.varTypes P).any (P.mapsRec ·)) = true) (h15 : (c.ifaces == (fn.params.toList ++ s.plain.varTypes P).any (P.ifacesRec ·)) = true) (h16 : (c.mapsOut == P.mapsAmong fn.resultTypes.toList) = true)
    (h17 : (c.loops == (fn.params.toList ++ s.plain.varTypes P).any (P.loopsFrom ·)) = true) (h18 : (c.wideKeys == (fn.params.toList ++ s.plain.varTypes P ++ fn.resultTypes.toList).any (P.wideKeysFrom ·)) = true)
    (h19 : s.vars.all (P.varReadable ·) = true) (h20 : fn.resultTypes.all (fun t => P.readableRec t && decide (t < P.types.size)) = true) (h21 : (c.ifacesOut == fn.resultTypes.toList.any (P.ifacesRec ·)) = true) (h22 : (c.loopsOut == fn.resultTypes.toList.any (P.loopsFrom ·)) = true)
    (h23 : (c.plainKeys == P.plainKeys) = true) (h24 : c.shortTexts.isNone = true) (h25 : P.stopsHeard = true) (h26 : P.mayEnter = true) (h27 : (c.lifted == P.liftsFinal) = true) (h28 : (P.make == some c.make) = true)
    (h29 : c.domain.isEmpty = true) (hk : c.kinds = []) (h30 : (c.pinned == c.pinnedBy) = true)
    (h31 : (c.veiled == (fn.params.toList ++ s.plain.varTypes P ++ fn.resultTypes.toList).any (P.veiledRec ·)) = true) (h32 : c.veiledFits P fn.params.toList (fn.params.toList ++ s.plain.varTypes P ++ fn.resultTypes.toList) = true) : joinedFacts P f fn s c = true := by
  unfold joinedFacts
  rw [h1, h2, h3, h4, h5, h6, h7, h8, h9, h10, h11, h12, h13, h14, h15, h16, h17, h18, h19, h20, h21, h22, h23, h24, h25, h26, h27, h28, if_pos h29, hk, h30, h31, h32]
  rfl
end Go.Proofs.YthhncpfcimmnjaaGreatDoor
