/-
  PowerRuns: the statement out of the contract. Written by shell.py.
-/
import Derived.Test.YtnkaepnblikcdaaGreatRows
import Derived.Test.YtnkaepnblikcdaaGreatWA
import Derived.Test.YtnkaepnblikcdaaGreatVP8
import Derived.Test.YtnkaepnblikcdaaGreatVPH
import Derived.OpenShut
import Derived.ShutString
import Derived.ChangeOld
import Derived.Below
namespace Go.Proofs.YtnkaepnblikcdaaGreat
open Go.ChangeShapes Go.WideShapes Go.ChangeAt Go.RowKit
open Go.Sx
set_option linter.unusedVariables false
set_option maxRecDepth 100000

theorem powerRuns_own : ownKnob Tryz.prog.godebug = none := by kernel_rfl
theorem powerRuns_laid : laidOutB Tryz.prog = true := wa_laid

theorem powerRuns_inPlace : (Rows.powerRunsRow.inPlace == Tryz.prog.inPlace 14) = true := by kernel_rfl
theorem powerRuns_unfollowed : (Rows.powerRunsRow.unfollowed == Tryz.prog.unfollowed 14) = true := by kernel_rfl
theorem powerRuns_recurses : (Rows.powerRunsRow.recurses == Tryz.prog.recurses 14) = true := by kernel_rfl
theorem powerRuns_named : (Rows.powerRunsRow.named == Tryz.prog.varsNamed 14) = true := by kernel_rfl
theorem powerRuns_closed : joinedFacts Tryz.prog 14 Tryz.f14 Rows.powerRunsSpec Rows.powerRunsRow = true :=
  joined_of (by kernel_rfl) wa_laid wa_maps (by kernel_rfl) (by kernel_rfl) (by kernel_rfl) wa_stops (by kernel_rfl) wa_knobs powerRuns_inPlace powerRuns_unfollowed powerRuns_recurses powerRuns_named (by kernel_rfl) (by kernel_rfl) (by kernel_rfl) (by kernel_rfl) (by kernel_rfl) (by kernel_rfl) (by kernel_rfl) (by kernel_rfl) (by kernel_rfl) wa_keys (by kernel_rfl) wa_heard wa_enter wa_lifted wa_make (by kernel_rfl) (by kernel_rfl) (by kernel_rfl) (by kernel_rfl) (by kernel_rfl)

theorem powerRuns_lifted (os : Os) (started : os.Started) (H : Type) (enc : TypeId × Value → H) :
    ReturnsInHanded {} Tryz.checked os 14 .any (Rows.powerRunsSpec.pre6 enc Tryz.prog Tryz.f14 Rows.powerRunsRow.domain false) (Rows.powerRunsSpec.post enc Tryz.prog Tryz.f14 false true false false) := by
  refine returnsInHanded_of_change (C := Tryz.checked) powerRuns_own started (by kernel_rfl) Tryz.func14
    (ChangeSpec.witness6 (enc := enc) (C := Tryz.checked) false ⟨#[], #[.agg #[.int .i64 0, .int .i64 0, .int .i64 0, .int .i64 0, .int .i64 0, .int .i64 0, .int .i64 0, .int .i64 0, .int .i64 0, .int .i64 0, .int .i64 0, .int .i64 0, .int .i64 0, .int .i64 0, .int .i64 0, .int .i64 0, .int .i64 0, .int .i64 0, .int .i64 0, .int .i64 0, .int .i64 0, .int .i64 0, .int .i64 0, .int .i64 0, .int .i64 0, .int .i64 0, .int .i64 0, .int .i64 0, .bool false, .int .i64 0, .int .i64 0, .int .i64 0, .int .i64 0, .int .i64 0, .int .i64 0, .int .i64 0, .int .i64 0, .int .i64 0, .int .i64 0, .int .i64 0, .int .i64 0, .int .i64 0, .int .i64 0, .int .i64 0, .int .i64 0, .int .i64 0, .int .i64 0, .int .i64 0, .int .i64 0, .int .i64 0, .int .i64 0, .int .i64 0, .bool false, .int .i64 0, .int .i64 0, .int .i64 0, .int .i64 0, .int .i64 0, .int .i64 0, .int .i64 0, .int .i64 0, .int .i64 0, .int .i64 0, .bool false, .int .i64 0], .slice none 0 0], []⟩ 8 (by kernel_rfl) (by kernel_rfl) (by kernel_rfl) (by kernel_rfl)) ?_
  intro W base args ds gs before hval0 hW hcnd _
  have hval : ∀ (j : Nat) t v, Tryz.f14.params[j]? = some t → args[j]? = some v → Value.okWide Tryz.prog W .any base t v := hval0
  have hW' := hW
  obtain ⟨p, q, hA0, hV, rfl, hfz, hnd⟩ := hW
  have hA : DataW.TrodAll enc Tryz.prog W 0 (fun _ => true) true Tryz.f14.params.toList args.toList ds p := hA0
  rw [Tryz.params14] at hA hval
  obtain ⟨v0, vs0, d0, ds0, p0, q0, hargs, rfl, rfl, h0, r0⟩ := trodAll_cons hA
  obtain ⟨v1, vs1, d1, ds1, p1, q1, rfl, rfl, rfl, h1, r1⟩ := trodAll_cons r0
  obtain ⟨rfl, rfl, rfl⟩ := trodAll_nil r1
  obtain rfl : args = #[v0, v1] := by cases args; simp_all
  obtain ⟨rfl, rfl⟩ := trodVars_none hV
  have lt0 : ∀ x ∈ p0, x.block < W.heap.size := by obtain ⟨m, hm⟩ := h0; exact DataW.trod_lt m _ _ _ hm
  obtain ⟨y0, w0, s0⟩ := argOf_agg (d := 20) (u := (.pair (.pair (.pair (.pair (.int .i64) (.pair (.int .i64) (.pair (.int .i64) (.pair (.int .i64) (.pair (.int .i64) (.pair (.int .i64) (.int .i64))))))) (.pair (.pair (.int .i64) (.pair (.int .i64) (.pair (.int .i64) (.pair (.int .i64) (.pair (.int .i64) (.pair (.int .i64) (.int .i64))))))) (.pair (.pair (.int .i64) (.pair (.int .i64) (.pair (.int .i64) (.pair (.int .i64) (.pair (.int .i64) (.pair (.int .i64) (.int .i64))))))) (.pair (.int .i64) (.pair (.int .i64) (.pair (.int .i64) (.pair (.int .i64) (.pair (.int .i64) (.pair (.int .i64) (.int .i64)))))))))) (.pair .bool (.int .i64))) (.pair (.pair (.pair (.int .i64) (.pair (.int .i64) (.pair (.int .i64) (.pair (.int .i64) (.pair (.int .i64) (.int .i64)))))) (.pair (.int .i64) (.pair (.int .i64) (.pair (.int .i64) (.pair (.int .i64) (.pair (.int .i64) (.int .i64))))))) (.pair (.pair (.pair (.int .i64) (.pair (.int .i64) (.pair (.int .i64) (.pair (.int .i64) (.pair (.int .i64) (.pair (.int .i64) (.pair (.int .i64) (.pair (.int .i64) (.pair (.int .i64) (.pair (.int .i64) .bool)))))))))) (.pair (.int .i64) (.pair (.int .i64) (.pair (.int .i64) (.pair (.int .i64) (.pair (.int .i64) (.pair (.int .i64) (.pair (.int .i64) (.pair (.int .i64) (.pair (.int .i64) (.pair (.int .i64) .bool))))))))))) (.int .i64))))) (by kernel_rfl) Tryz.underlying34 (hval 0 34 v0 rfl rfl) h0
  have lt1 : ∀ x ∈ p1, x.block < W.heap.size := by obtain ⟨m, hm⟩ := h1; exact DataW.trod_lt m _ _ _ hm
  obtain ⟨y1, w1, s1⟩ := argOf_list (d := 20) (u := (.pair (.pair (.int .i64) (.pair .bool (.pair (.pair (.int .i64) (.pair (.int .i64) (.pair (.int .i64) (.pair (.int .i64) (.pair (.int .i64) (.pair (.int .i64) (.pair (.int .i64) (.int .i64)))))))) (.pair (.int .i64) (.pair (.int .i64) (.int .i64)))))) (.pair (.int .i64) (.int .i64)))) (by kernel_rfl) Tryz.underlying91 (hval 1 91 v1 rfl rfl) h1
  clear hA0 hval0
  refine (SCall.calls_some (s_lawPRuns (⟨⟨y0.1.1.1.1, y0.1.1.1.2.1, y0.1.1.1.2.2.1, y0.1.1.1.2.2.2.1, y0.1.1.1.2.2.2.2.1, y0.1.1.1.2.2.2.2.2.1, y0.1.1.1.2.2.2.2.2.2⟩, ⟨y0.1.1.2.1.1, y0.1.1.2.1.2.1, y0.1.1.2.1.2.2.1, y0.1.1.2.1.2.2.2.1, y0.1.1.2.1.2.2.2.2.1, y0.1.1.2.1.2.2.2.2.2.1, y0.1.1.2.1.2.2.2.2.2.2⟩, ⟨y0.1.1.2.2.1.1, y0.1.1.2.2.1.2.1, y0.1.1.2.2.1.2.2.1, y0.1.1.2.2.1.2.2.2.1, y0.1.1.2.2.1.2.2.2.2.1, y0.1.1.2.2.1.2.2.2.2.2.1, y0.1.1.2.2.1.2.2.2.2.2.2⟩, ⟨y0.1.1.2.2.2.1, y0.1.1.2.2.2.2.1, y0.1.1.2.2.2.2.2.1, y0.1.1.2.2.2.2.2.2.1, y0.1.1.2.2.2.2.2.2.2.1, y0.1.1.2.2.2.2.2.2.2.2.1, y0.1.1.2.2.2.2.2.2.2.2.2⟩, y0.1.2.1, y0.1.2.2⟩) (⟨y0.2.1.1.1, y0.2.1.1.2.1, y0.2.1.1.2.2.1, y0.2.1.1.2.2.2.1, y0.2.1.1.2.2.2.2.1, y0.2.1.1.2.2.2.2.2⟩) (⟨y0.2.1.2.1, y0.2.1.2.2.1, y0.2.1.2.2.2.1, y0.2.1.2.2.2.2.1, y0.2.1.2.2.2.2.2.1, y0.2.1.2.2.2.2.2.2⟩) (⟨y0.2.2.1.1.1, y0.2.2.1.1.2.1, y0.2.2.1.1.2.2.1, y0.2.2.1.1.2.2.2.1, y0.2.2.1.1.2.2.2.2.1, y0.2.2.1.1.2.2.2.2.2.1, y0.2.2.1.1.2.2.2.2.2.2.1, y0.2.2.1.1.2.2.2.2.2.2.2.1, y0.2.2.1.1.2.2.2.2.2.2.2.2.1, y0.2.2.1.1.2.2.2.2.2.2.2.2.2.1, y0.2.2.1.1.2.2.2.2.2.2.2.2.2.2⟩) (⟨y0.2.2.1.2.1, y0.2.2.1.2.2.1, y0.2.2.1.2.2.2.1, y0.2.2.1.2.2.2.2.1, y0.2.2.1.2.2.2.2.2.1, y0.2.2.1.2.2.2.2.2.2.1, y0.2.2.1.2.2.2.2.2.2.2.1, y0.2.2.1.2.2.2.2.2.2.2.2.1, y0.2.2.1.2.2.2.2.2.2.2.2.2.1, y0.2.2.1.2.2.2.2.2.2.2.2.2.2.1, y0.2.2.1.2.2.2.2.2.2.2.2.2.2.2⟩) (y0.2.2.2) y1 w1.1 w1.2) rfl Tryz.func14 (by kernel_rfl) (by kernel_rfl) W [v0, v1] (⟨_, _, rfl, s0, ⟨_, _, rfl, s1, rfl⟩⟩) trivial).mono fun e W' he => ?_
  obtain ⟨u, rfl, bel, rfl⟩ := he
  exact ⟨_, rfl, _, _, _, [], _, [], hW', trodAll_mk1 (shut_bool Tryz.underlying4 _), (trodAll_cons_mk (Below.trod powerRuns_laid (by kernel_rfl) (of_decide_eq_true (by kernel_rfl)) h0 bel lt0) (trodAll_cons_mk (Below.trod powerRuns_laid (by kernel_rfl) (of_decide_eq_true (by kernel_rfl)) h1 bel lt1) trodAll_mk0)), rfl, bel.frame _, fun h => by cases h⟩

theorem powerRuns_over : Rows.powerRunsRow.holds Tryz.pinned (OpenSpec.ofChange Rows.powerRunsSpec) :=
  OpenClaim.holds_of_wide 14 Tryz.f14 rfl rfl rfl rfl rfl rfl rfl ⟨rfl, rfl, rfl, rfl, rfl⟩ rfl rfl rfl rfl rfl (by kernel_rfl) Tryz.func14 powerRuns_closed
    (of_decide_eq_true (by kernel_rfl)) (by unfold Func.isWrapper; first | (rw [if_pos (by decide +kernel)]; kernel_rfl) | (rw [if_neg (by decide +kernel)]; exact ⟨rfl, rfl⟩))
    (fun os started H enc _ => powerRuns_lifted os started H enc)

theorem powerRuns_proved : Rows.PowerRunsSaid := powerRuns_over
end Go.Proofs.YtnkaepnblikcdaaGreat
