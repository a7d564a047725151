/-
  FirmwareNews: the statement out of the contract. Written by shell.py.
-/
import Derived.Test.YtnkaepnblikcdaaGreatRows
import Derived.Test.YtnkaepnblikcdaaGreatWA
import Derived.Test.YtnkaepnblikcdaaGreatZH1
import Derived.Test.YtnkaepnblikcdaaGreatZN1
import Derived.OpenShut
import Derived.ShutString
import Derived.ChangeOld
import Derived.Below
namespace Go.Proofs.YtnkaepnblikcdaaGreat
open Go.ChangeShapes Go.WideShapes Go.ChangeAt Go.RowKit
open Go.Sx
set_option linter.unusedVariables false
set_option maxRecDepth 100000

theorem firmwareNews_own : ownKnob Tryz.prog.godebug = none := by kernel_rfl
theorem firmwareNews_laid : laidOutB Tryz.prog = true := wa_laid

theorem firmwareNews_inPlace : (Rows.firmwareNewsRow.inPlace == Tryz.prog.inPlace 4) = true := by kernel_rfl
theorem firmwareNews_unfollowed : (Rows.firmwareNewsRow.unfollowed == Tryz.prog.unfollowed 4) = true := by kernel_rfl
theorem firmwareNews_recurses : (Rows.firmwareNewsRow.recurses == Tryz.prog.recurses 4) = true := by kernel_rfl
theorem firmwareNews_named : (Rows.firmwareNewsRow.named == Tryz.prog.varsNamed 4) = true := by kernel_rfl
theorem firmwareNews_closed : joinedFacts Tryz.prog 4 Tryz.f4 Rows.firmwareNewsSpec Rows.firmwareNewsRow = true :=
  joined_of (by kernel_rfl) wa_laid wa_maps (by kernel_rfl) (by kernel_rfl) (by kernel_rfl) wa_stops (by kernel_rfl) wa_knobs firmwareNews_inPlace firmwareNews_unfollowed firmwareNews_recurses firmwareNews_named (by kernel_rfl) (by kernel_rfl) (by kernel_rfl) (by kernel_rfl) (by kernel_rfl) (by kernel_rfl) (by kernel_rfl) (by kernel_rfl) (by kernel_rfl) wa_keys (by kernel_rfl) wa_heard wa_enter wa_lifted wa_make (by kernel_rfl) (by kernel_rfl) (by kernel_rfl) (by kernel_rfl) (by kernel_rfl)

theorem firmwareNews_lifted (os : Os) (started : os.Started) (H : Type) (enc : TypeId × Value → H) :
    ReturnsInHanded {} Tryz.checked os 4 .any (Rows.firmwareNewsSpec.pre6 enc Tryz.prog Tryz.f4 Rows.firmwareNewsRow.domain false) (Rows.firmwareNewsSpec.post enc Tryz.prog Tryz.f4 false true false false) := by
  refine returnsInHanded_of_change (C := Tryz.checked) firmwareNews_own started (by kernel_rfl) Tryz.func4
    (ChangeSpec.witness6 (enc := enc) (C := Tryz.checked) false ⟨#[], #[.agg #[.int .i64 0, .int .i64 0, .int .i64 0, .int .i64 0, .int .i64 0, .int .i64 0, .int .i64 0, .int .i64 0, .int .i64 0, .int .i64 0, .int .i64 0, .int .i64 0, .int .i64 0, .int .i64 0, .int .i64 0, .int .i64 0, .int .i64 0, .int .i64 0, .int .i64 0, .int .i64 0, .int .i64 0, .int .i64 0, .int .i64 0, .int .i64 0, .int .i64 0, .int .i64 0, .int .i64 0, .int .i64 0, .bool false, .int .i64 0, .int .i64 0, .int .i64 0, .int .i64 0, .int .i64 0, .int .i64 0, .int .i64 0, .int .i64 0, .int .i64 0, .int .i64 0, .int .i64 0, .int .i64 0, .int .i64 0, .int .i64 0, .int .i64 0, .int .i64 0, .int .i64 0, .int .i64 0, .int .i64 0, .int .i64 0, .int .i64 0, .int .i64 0, .int .i64 0, .bool false, .int .i64 0, .int .i64 0, .int .i64 0, .int .i64 0, .int .i64 0, .int .i64 0, .int .i64 0, .int .i64 0, .int .i64 0, .int .i64 0, .bool false, .int .i64 0]], []⟩ 8 (by kernel_rfl) (by kernel_rfl) (by kernel_rfl) (by kernel_rfl)) ?_
  intro W base args ds gs before hval0 hW hcnd _
  have hval : ∀ (j : Nat) t v, Tryz.f4.params[j]? = some t → args[j]? = some v → Value.okWide Tryz.prog W .any base t v := hval0
  have hW' := hW
  obtain ⟨p, q, hA0, hV, rfl, hfz, hnd⟩ := hW
  have hA : DataW.TrodAll enc Tryz.prog W 0 (fun _ => true) true Tryz.f4.params.toList args.toList ds p := hA0
  rw [Tryz.params4] at hA hval
  obtain ⟨v0, vs0, d0, ds0, p0, q0, hargs, rfl, rfl, h0, r0⟩ := trodAll_cons hA
  obtain ⟨rfl, rfl, rfl⟩ := trodAll_nil r0
  obtain rfl : args = #[v0] := by cases args; simp_all
  obtain ⟨rfl, rfl⟩ := trodVars_none hV
  have lt0 : ∀ x ∈ p0, x.block < W.heap.size := by obtain ⟨m, hm⟩ := h0; exact DataW.trod_lt m _ _ _ hm
  obtain ⟨y0, w0, s0⟩ := argOf_agg (d := 20) (u := (.pair (.pair (.pair (.pair (.int .i64) (.pair (.int .i64) (.pair (.int .i64) (.pair (.int .i64) (.pair (.int .i64) (.pair (.int .i64) (.int .i64))))))) (.pair (.pair (.int .i64) (.pair (.int .i64) (.pair (.int .i64) (.pair (.int .i64) (.pair (.int .i64) (.pair (.int .i64) (.int .i64))))))) (.pair (.pair (.int .i64) (.pair (.int .i64) (.pair (.int .i64) (.pair (.int .i64) (.pair (.int .i64) (.pair (.int .i64) (.int .i64))))))) (.pair (.int .i64) (.pair (.int .i64) (.pair (.int .i64) (.pair (.int .i64) (.pair (.int .i64) (.pair (.int .i64) (.int .i64)))))))))) (.pair .bool (.int .i64))) (.pair (.pair (.pair (.int .i64) (.pair (.int .i64) (.pair (.int .i64) (.pair (.int .i64) (.pair (.int .i64) (.int .i64)))))) (.pair (.int .i64) (.pair (.int .i64) (.pair (.int .i64) (.pair (.int .i64) (.pair (.int .i64) (.int .i64))))))) (.pair (.pair (.pair (.int .i64) (.pair (.int .i64) (.pair (.int .i64) (.pair (.int .i64) (.pair (.int .i64) (.pair (.int .i64) (.pair (.int .i64) (.pair (.int .i64) (.pair (.int .i64) (.pair (.int .i64) .bool)))))))))) (.pair (.int .i64) (.pair (.int .i64) (.pair (.int .i64) (.pair (.int .i64) (.pair (.int .i64) (.pair (.int .i64) (.pair (.int .i64) (.pair (.int .i64) (.pair (.int .i64) (.pair (.int .i64) .bool))))))))))) (.int .i64))))) (by kernel_rfl) Tryz.underlying34 (hval 0 34 v0 rfl rfl) h0
  clear hA0 hval0
  refine (SCall.calls_some (s_lawNews (⟨⟨y0.1.1.1.1, y0.1.1.1.2.1, y0.1.1.1.2.2.1, y0.1.1.1.2.2.2.1, y0.1.1.1.2.2.2.2.1, y0.1.1.1.2.2.2.2.2.1, y0.1.1.1.2.2.2.2.2.2⟩, ⟨y0.1.1.2.1.1, y0.1.1.2.1.2.1, y0.1.1.2.1.2.2.1, y0.1.1.2.1.2.2.2.1, y0.1.1.2.1.2.2.2.2.1, y0.1.1.2.1.2.2.2.2.2.1, y0.1.1.2.1.2.2.2.2.2.2⟩, ⟨y0.1.1.2.2.1.1, y0.1.1.2.2.1.2.1, y0.1.1.2.2.1.2.2.1, y0.1.1.2.2.1.2.2.2.1, y0.1.1.2.2.1.2.2.2.2.1, y0.1.1.2.2.1.2.2.2.2.2.1, y0.1.1.2.2.1.2.2.2.2.2.2⟩, ⟨y0.1.1.2.2.2.1, y0.1.1.2.2.2.2.1, y0.1.1.2.2.2.2.2.1, y0.1.1.2.2.2.2.2.2.1, y0.1.1.2.2.2.2.2.2.2.1, y0.1.1.2.2.2.2.2.2.2.2.1, y0.1.1.2.2.2.2.2.2.2.2.2⟩, y0.1.2.1, y0.1.2.2⟩) (⟨y0.2.1.1.1, y0.2.1.1.2.1, y0.2.1.1.2.2.1, y0.2.1.1.2.2.2.1, y0.2.1.1.2.2.2.2.1, y0.2.1.1.2.2.2.2.2⟩) (⟨y0.2.1.2.1, y0.2.1.2.2.1, y0.2.1.2.2.2.1, y0.2.1.2.2.2.2.1, y0.2.1.2.2.2.2.2.1, y0.2.1.2.2.2.2.2.2⟩) (⟨y0.2.2.1.1.1, y0.2.2.1.1.2.1, y0.2.2.1.1.2.2.1, y0.2.2.1.1.2.2.2.1, y0.2.2.1.1.2.2.2.2.1, y0.2.2.1.1.2.2.2.2.2.1, y0.2.2.1.1.2.2.2.2.2.2.1, y0.2.2.1.1.2.2.2.2.2.2.2.1, y0.2.2.1.1.2.2.2.2.2.2.2.2.1, y0.2.2.1.1.2.2.2.2.2.2.2.2.2.1, y0.2.2.1.1.2.2.2.2.2.2.2.2.2.2⟩) (⟨y0.2.2.1.2.1, y0.2.2.1.2.2.1, y0.2.2.1.2.2.2.1, y0.2.2.1.2.2.2.2.1, y0.2.2.1.2.2.2.2.2.1, y0.2.2.1.2.2.2.2.2.2.1, y0.2.2.1.2.2.2.2.2.2.2.1, y0.2.2.1.2.2.2.2.2.2.2.2.1, y0.2.2.1.2.2.2.2.2.2.2.2.2.1, y0.2.2.1.2.2.2.2.2.2.2.2.2.2.1, y0.2.2.1.2.2.2.2.2.2.2.2.2.2.2⟩) (y0.2.2.2)) rfl Tryz.func4 (by kernel_rfl) (by kernel_rfl) W [v0] (⟨_, _, rfl, s0, rfl⟩) trivial).mono fun e W' he => ?_
  obtain ⟨u, rfl, bel, rfl⟩ := he
  exact ⟨_, rfl, _, _, _, [], _, [], hW', trodAll_mk1 (shut_bool Tryz.underlying4 _), (trodAll_cons_mk (Below.trod firmwareNews_laid (by kernel_rfl) (of_decide_eq_true (by kernel_rfl)) h0 bel lt0) trodAll_mk0), rfl, bel.frame _, fun h => by cases h⟩

theorem firmwareNews_over : Rows.firmwareNewsRow.holds Tryz.pinned (OpenSpec.ofChange Rows.firmwareNewsSpec) :=
  OpenClaim.holds_of_wide 4 Tryz.f4 rfl rfl rfl rfl rfl rfl rfl ⟨rfl, rfl, rfl, rfl, rfl⟩ rfl rfl rfl rfl rfl (by kernel_rfl) Tryz.func4 firmwareNews_closed
    (of_decide_eq_true (by kernel_rfl)) (by unfold Func.isWrapper; first | (rw [if_pos (by decide +kernel)]; kernel_rfl) | (rw [if_neg (by decide +kernel)]; exact ⟨rfl, rfl⟩))
    (fun os started H enc _ => firmwareNews_lifted os started H enc)

theorem firmwareNews_proved : Rows.FirmwareNewsSaid := firmwareNews_over
end Go.Proofs.YtnkaepnblikcdaaGreat
