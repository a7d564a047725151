/-
  The ties, each closed fact by itself.
-/
import Derived.Test.YthhncpfcimmnjaaGreatDoorRows
import Derived.LaidByTextLater
import Derived.SevenTiedAt
import Derived.LaidSub
import Derived.LaidOnce
namespace Go.Proofs.YthhncpfcimmnjaaGreatDoor
open Go
set_option maxRecDepth 100000
set_option linter.unusedVariables false
set_option maxRecDepth 100000
theorem seatTie1_hw : Tryz.prog.worded (varsWordLater true) = true := by kernel_rfl
theorem seatTie1_hv : Tryz.prog.worded (varsWordLater !true) = false := by kernel_rfl
theorem seatTie1_hr : Tryz.prog.worded rootWordLater = true := by kernel_rfl
theorem seatTie1_hk : ([("unicode/utf8.acceptRanges", Rows.laid_unicode_utf8_acceptRanges)] : List (String × DataW Unit)).map (fun x => Tryz.prog.kindOfLater x.1) = ([.data] : List LaidKind).map some := by kernel_rfl
theorem seatTie1_hg : (Tryz.prog.funcNamed "gosem.cut.vars").isSome = true := by kernel_rfl
theorem seatTie1_hn : varsNamedLaterB Tryz.prog (varsId Tryz.prog) [("unicode/utf8.acceptRanges", Rows.laid_unicode_utf8_acceptRanges)] = true := by kernel_rfl
theorem seatTie1_hd (os : Os) (tape : Tape) : doorLeaves Tryz.prog 19 8 33 [("unicode/utf8.acceptRanges", Rows.laid_unicode_utf8_acceptRanges)] os tape = some (([("unicode/utf8.acceptRanges", Rows.laid_unicode_utf8_acceptRanges)] : List (String × DataW Unit)).filter fun x => x.2.handleName?.isNone, (funcsListed [("unicode/utf8.acceptRanges", Rows.laid_unicode_utf8_acceptRanges)]).map (·.2.funcsOut)) := by kernel_rfl
theorem seatTie1 : Tryz.prog.laidByTextLater [("unicode/utf8.acceptRanges", Rows.laid_unicode_utf8_acceptRanges)] [.data] true :=
  Program.laidByTextLater_by_one 19 8 33 seatTie1_hw seatTie1_hv seatTie1_hr seatTie1_hk seatTie1_hg seatTie1_hn seatTie1_hd
theorem pin_laid_unicode_utf8_first : Tryz.pinned.checked.prog.pinnedFits "unicode/utf8.first" = true := by kernel_rfl
theorem noOwnUnsafe : Tryz.pinned.checked.prog.headLifts.contains "ownunsafe" = false := by kernel_rfl
theorem fits1 : Tryz.pinned.checked.prog.listedFits [("unicode/utf8.acceptRanges", Rows.laid_unicode_utf8_acceptRanges), ("unicode/utf8.first", Rows.laid_unicode_utf8_first)] = true := by
  unfold Program.listedFits
  rw [noOwnUnsafe]
  kernel_rfl
theorem tie : Tryz.prog.laidByTextLater [("unicode/utf8.acceptRanges", Rows.laid_unicode_utf8_acceptRanges)] [.data] true :=
  Program.laidByTextLater.sub seatTie1 ["unicode/utf8.acceptRanges"] (by kernel_rfl) (by kernel_rfl)
theorem printerNews_row_tie : Rows.printerNewsRow.laidByTextAt .later Tryz.pinned [.data, .pinned] true :=
  OpenClaim.laidByTextAt_pinned rfl rfl tie rfl rfl rfl rfl (fun y hy _e => by
    simp only [Rows.printerNewsRow, List.zip_cons_cons, List.zip_nil_right, List.mem_cons, List.mem_nil_iff, or_false] at hy
    rcases hy with rfl | rfl
    · cases _e
    · exact ⟨pin_laid_unicode_utf8_first, by kernel_rfl⟩) fits1
theorem printerNewsUpto_row_tie : Rows.printerNewsUptoRow.laidByTextAt .later Tryz.pinned [.data, .pinned] true :=
  OpenClaim.laidByTextAt_pinned rfl rfl tie rfl rfl rfl rfl (fun y hy _e => by
    simp only [Rows.printerNewsUptoRow, List.zip_cons_cons, List.zip_nil_right, List.mem_cons, List.mem_nil_iff, or_false] at hy
    rcases hy with rfl | rfl
    · cases _e
    · exact ⟨pin_laid_unicode_utf8_first, by kernel_rfl⟩) fits1
end Go.Proofs.YthhncpfcimmnjaaGreatDoor
