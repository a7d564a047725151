/-
  PowerTicks: the statement out of the contract. Written by shell.py.
-/
import Derived.Test.YtnkaepnblikcdaaGreatRows
import Derived.Test.YtnkaepnblikcdaaGreatWA
import Derived.Test.YtnkaepnblikcdaaGreatVT7
import Derived.Test.YtnkaepnblikcdaaGreatVTH
import Derived.Test.YtnkaepnblikcdaaGreatVTG
import Derived.OpenShut
import Derived.ShutString
import Derived.ChangeOld
import Derived.Below
namespace Go.Proofs.YtnkaepnblikcdaaGreat
open Go.ChangeShapes Go.WideShapes Go.ChangeAt Go.RowKit
open Go.Sx
set_option linter.unusedVariables false
set_option maxRecDepth 100000

theorem powerTicks_own : ownKnob Tryz.prog.godebug = none := by kernel_rfl
theorem powerTicks_laid : laidOutB Tryz.prog = true := wa_laid

theorem powerTicks_inPlace : (Rows.powerTicksRow.inPlace == Tryz.prog.inPlace 11) = true := by kernel_rfl
theorem powerTicks_unfollowed : (Rows.powerTicksRow.unfollowed == Tryz.prog.unfollowed 11) = true := by kernel_rfl
theorem powerTicks_recurses : (Rows.powerTicksRow.recurses == Tryz.prog.recurses 11) = true := by kernel_rfl
theorem powerTicks_named : (Rows.powerTicksRow.named == Tryz.prog.varsNamed 11) = true := by kernel_rfl
theorem powerTicks_closed : joinedFacts Tryz.prog 11 Tryz.f11 Rows.powerTicksSpec Rows.powerTicksRow = true :=
  joined_of (by kernel_rfl) wa_laid wa_maps (by kernel_rfl) (by kernel_rfl) (by kernel_rfl) wa_stops (by kernel_rfl) wa_knobs powerTicks_inPlace powerTicks_unfollowed powerTicks_recurses powerTicks_named (by kernel_rfl) (by kernel_rfl) (by kernel_rfl) (by kernel_rfl) (by kernel_rfl) (by kernel_rfl) (by kernel_rfl) (by kernel_rfl) (by kernel_rfl) wa_keys (by kernel_rfl) wa_heard wa_enter wa_lifted wa_make (by kernel_rfl) (by kernel_rfl) (by kernel_rfl) (by kernel_rfl) (by kernel_rfl)

theorem powerTicks_lifted (os : Os) (started : os.Started) (H : Type) (enc : TypeId × Value → H) :
    ReturnsInHanded {} Tryz.checked os 11 .any (Rows.powerTicksSpec.pre6 enc Tryz.prog Tryz.f11 Rows.powerTicksRow.domain false) (Rows.powerTicksSpec.post enc Tryz.prog Tryz.f11 false true false false) := by
  refine returnsInHanded_of_change (C := Tryz.checked) powerTicks_own started (by kernel_rfl) Tryz.func11
    (ChangeSpec.witness6 (enc := enc) (C := Tryz.checked) false ⟨#[], #[.agg #[.int .i64 0, .int .i64 0, .int .i64 0, .int .i64 0, .int .i64 0, .int .i64 0, .int .i64 0, .int .i64 0, .int .i64 0, .int .i64 0, .int .i64 0, .int .i64 0, .int .i64 0, .int .i64 0, .int .i64 0, .int .i64 0, .int .i64 0, .int .i64 0, .int .i64 0, .int .i64 0, .int .i64 0, .int .i64 0, .int .i64 0, .int .i64 0, .int .i64 0, .int .i64 0, .int .i64 0, .int .i64 0, .bool false, .int .i64 0, .int .i64 0, .bool false, .int .i64 0, .int .i64 0, .int .i64 0, .int .i64 0, .int .i64 0, .int .i64 0, .int .i64 0, .int .i64 0, .int .i64 0, .slice none 0 0, .slice none 0 0, .int .i64 0, .int .i64 0, .int .i64 0, .int .i64 0, .int .i64 0, .int .i64 0, .int .i64 0, .int .i64 0, .int .i64 0, .int .i64 0, .bool false, .int .i64 0, .bool false, .int .i64 0, .int .i64 0, .int .i64 0, .int .i64 0, .int .i64 0, .int .i64 0, .int .i64 0, .int .i64 0, .int .i64 0, .int .i64 0, .int .i64 0, .int .i64 0, .int .i64 0, .int .i64 0, .int .i64 0, .int .i64 0, .int .i64 0, .int .i64 0, .int .i64 0, .int .i64 0, .int .i64 0, .int .i64 0, .int .i64 0, .int .i64 0, .int .i64 0, .int .i64 0, .int .i64 0, .int .i64 0, .bool false, .int .i64 0, .int .i64 0, .int .i64 0, .int .i64 0, .int .i64 0, .int .i64 0, .int .i64 0, .int .i64 0, .int .i64 0, .int .i64 0, .bool false, .int .i64 0, .int .i64 0, .int .i64 0, .int .i64 0, .int .i64 0, .int .i64 0], .agg #[.slice none 0 0, .int .i64 0, .bool false, .int .i64 0], .agg #[.int .i64 0, .int .i64 0]], []⟩ 8 (by kernel_rfl) (by kernel_rfl) (by kernel_rfl) (by kernel_rfl)) ?_
  intro W base args ds gs before hval0 hW hcnd _
  have hval : ∀ (j : Nat) t v, Tryz.f11.params[j]? = some t → args[j]? = some v → Value.okWide Tryz.prog W .any base t v := hval0
  have hW' := hW
  obtain ⟨p, q, hA0, hV, rfl, hfz, hnd⟩ := hW
  have hA : DataW.TrodAll enc Tryz.prog W 0 (fun _ => true) true Tryz.f11.params.toList args.toList ds p := hA0
  rw [Tryz.params11] at hA hval
  obtain ⟨v0, vs0, d0, ds0, p0, q0, hargs, rfl, rfl, h0, r0⟩ := trodAll_cons hA
  obtain ⟨v1, vs1, d1, ds1, p1, q1, rfl, rfl, rfl, h1, r1⟩ := trodAll_cons r0
  obtain ⟨v2, vs2, d2, ds2, p2, q2, rfl, rfl, rfl, h2, r2⟩ := trodAll_cons r1
  obtain ⟨rfl, rfl, rfl⟩ := trodAll_nil r2
  obtain rfl : args = #[v0, v1, v2] := by cases args; simp_all
  obtain ⟨rfl, rfl⟩ := trodVars_none hV
  have lt0 : ∀ x ∈ p0, x.block < W.heap.size := by obtain ⟨m, hm⟩ := h0; exact DataW.trod_lt m _ _ _ hm
  obtain ⟨y0, w0, s0⟩ := argOf_agg (d := 20) (u := (.pair (.pair (.pair (.pair (.int .i64) (.pair (.int .i64) (.pair (.int .i64) (.pair (.int .i64) (.pair (.int .i64) (.pair (.int .i64) (.int .i64))))))) (.pair (.pair (.int .i64) (.pair (.int .i64) (.pair (.int .i64) (.pair (.int .i64) (.pair (.int .i64) (.pair (.int .i64) (.int .i64))))))) (.pair (.pair (.int .i64) (.pair (.int .i64) (.pair (.int .i64) (.pair (.int .i64) (.pair (.int .i64) (.pair (.int .i64) (.int .i64))))))) (.pair (.int .i64) (.pair (.int .i64) (.pair (.int .i64) (.pair (.int .i64) (.pair (.int .i64) (.pair (.int .i64) (.int .i64)))))))))) (.pair .bool (.int .i64))) (.pair (.int .i64) (.pair .bool (.pair (.pair (.int .i64) (.pair (.int .i64) (.pair (.int .i64) (.int .i64)))) (.pair (.pair (.int .i64) (.pair (.int .i64) (.int .i64))) (.pair (.int .i64) (.pair (.int .i64) (.pair (.list (.pair (.pair (.int .i64) (.pair (.int .i64) (.pair (.int .i64) (.int .i64)))) (.pair (.int .i64) (.pair (.int .i64) (.pair (.int .i64) (.int .i64)))))) (.pair (.list (.int .i64)) (.pair (.pair (.pair (.pair (.int .i64) (.pair (.int .i64) (.pair (.int .i64) (.int .i64)))) (.pair (.int .i64) (.pair (.int .i64) (.pair (.int .i64) (.int .i64))))) (.pair (.int .i64) (.int .i64))) (.pair .bool (.pair (.int .i64) (.pair .bool (.pair (.pair (.int .i64) (.pair (.int .i64) (.pair (.int .i64) (.int .i64)))) (.pair (.int .i64) (.pair (.int .i64) (.pair (.pair (.pair (.int .i64) (.pair (.int .i64) (.pair (.int .i64) (.pair (.int .i64) (.pair (.int .i64) (.int .i64)))))) (.pair (.int .i64) (.pair (.int .i64) (.pair (.int .i64) (.pair (.int .i64) (.pair (.int .i64) (.int .i64))))))) (.pair (.pair (.pair (.int .i64) (.pair (.int .i64) (.pair (.int .i64) (.pair (.int .i64) (.pair (.int .i64) (.pair (.int .i64) (.pair (.int .i64) (.pair (.int .i64) (.pair (.int .i64) (.pair (.int .i64) .bool)))))))))) (.pair (.int .i64) (.pair (.int .i64) (.pair (.int .i64) (.pair (.int .i64) (.pair (.int .i64) (.pair (.int .i64) (.pair (.int .i64) (.pair (.int .i64) (.pair (.int .i64) (.pair (.int .i64) .bool))))))))))) (.pair (.int .i64) (.pair (.int .i64) (.pair (.int .i64) (.pair (.int .i64) (.pair (.int .i64) (.int .i64))))))))))))))))))))))))) (by kernel_rfl) Tryz.underlying47 (hval 0 47 v0 rfl rfl) h0
  have lt1 : ∀ x ∈ p1, x.block < W.heap.size := by obtain ⟨m, hm⟩ := h1; exact DataW.trod_lt m _ _ _ hm
  obtain ⟨y1, w1, s1⟩ := argOf_agg (d := 20) (u := (.pair (.list .str) (.pair (.int .i64) (.pair .bool (.int .i64))))) (by kernel_rfl) Tryz.underlying79 (hval 1 79 v1 rfl rfl) h1
  have lt2 : ∀ x ∈ p2, x.block < W.heap.size := by obtain ⟨m, hm⟩ := h2; exact DataW.trod_lt m _ _ _ hm
  obtain ⟨y2, w2, s2⟩ := argOf_arr (d := 20) (u := (.pair (.int .i64) (.int .i64))) (by kernel_rfl) Tryz.underlying45 (hval 2 45 v2 rfl rfl) h2
  clear hA0 hval0
  refine (SCall.calls_some (s_lawPTicks (⟨⟨⟨y0.1.1.1.1, y0.1.1.1.2.1, y0.1.1.1.2.2.1, y0.1.1.1.2.2.2.1, y0.1.1.1.2.2.2.2.1, y0.1.1.1.2.2.2.2.2.1, y0.1.1.1.2.2.2.2.2.2⟩, ⟨y0.1.1.2.1.1, y0.1.1.2.1.2.1, y0.1.1.2.1.2.2.1, y0.1.1.2.1.2.2.2.1, y0.1.1.2.1.2.2.2.2.1, y0.1.1.2.1.2.2.2.2.2.1, y0.1.1.2.1.2.2.2.2.2.2⟩, ⟨y0.1.1.2.2.1.1, y0.1.1.2.2.1.2.1, y0.1.1.2.2.1.2.2.1, y0.1.1.2.2.1.2.2.2.1, y0.1.1.2.2.1.2.2.2.2.1, y0.1.1.2.2.1.2.2.2.2.2.1, y0.1.1.2.2.1.2.2.2.2.2.2⟩, ⟨y0.1.1.2.2.2.1, y0.1.1.2.2.2.2.1, y0.1.1.2.2.2.2.2.1, y0.1.1.2.2.2.2.2.2.1, y0.1.1.2.2.2.2.2.2.2.1, y0.1.1.2.2.2.2.2.2.2.2.1, y0.1.1.2.2.2.2.2.2.2.2.2⟩, y0.1.2.1, y0.1.2.2⟩, y0.2.1, y0.2.2.1, (y0.2.2.2.1.1, y0.2.2.2.1.2.1, y0.2.2.2.1.2.2.1, y0.2.2.2.1.2.2.2), (y0.2.2.2.2.1.1, y0.2.2.2.2.1.2.1, y0.2.2.2.2.1.2.2), y0.2.2.2.2.2.1, y0.2.2.2.2.2.2.1, y0.2.2.2.2.2.2.2.1, y0.2.2.2.2.2.2.2.2.1, (((y0.2.2.2.2.2.2.2.2.2.1.1.1.1, y0.2.2.2.2.2.2.2.2.2.1.1.1.2.1, y0.2.2.2.2.2.2.2.2.2.1.1.1.2.2.1, y0.2.2.2.2.2.2.2.2.2.1.1.1.2.2.2), y0.2.2.2.2.2.2.2.2.2.1.1.2.1, y0.2.2.2.2.2.2.2.2.2.1.1.2.2.1, y0.2.2.2.2.2.2.2.2.2.1.1.2.2.2.1, y0.2.2.2.2.2.2.2.2.2.1.1.2.2.2.2), y0.2.2.2.2.2.2.2.2.2.1.2.1, y0.2.2.2.2.2.2.2.2.2.1.2.2), y0.2.2.2.2.2.2.2.2.2.2.1, y0.2.2.2.2.2.2.2.2.2.2.2.1, y0.2.2.2.2.2.2.2.2.2.2.2.2.1, (y0.2.2.2.2.2.2.2.2.2.2.2.2.2.1.1, y0.2.2.2.2.2.2.2.2.2.2.2.2.2.1.2.1, y0.2.2.2.2.2.2.2.2.2.2.2.2.2.1.2.2.1, y0.2.2.2.2.2.2.2.2.2.2.2.2.2.1.2.2.2), y0.2.2.2.2.2.2.2.2.2.2.2.2.2.2.1, y0.2.2.2.2.2.2.2.2.2.2.2.2.2.2.2.1, ⟨y0.2.2.2.2.2.2.2.2.2.2.2.2.2.2.2.2.1.1.1, y0.2.2.2.2.2.2.2.2.2.2.2.2.2.2.2.2.1.1.2.1, y0.2.2.2.2.2.2.2.2.2.2.2.2.2.2.2.2.1.1.2.2.1, y0.2.2.2.2.2.2.2.2.2.2.2.2.2.2.2.2.1.1.2.2.2.1, y0.2.2.2.2.2.2.2.2.2.2.2.2.2.2.2.2.1.1.2.2.2.2.1, y0.2.2.2.2.2.2.2.2.2.2.2.2.2.2.2.2.1.1.2.2.2.2.2⟩, ⟨y0.2.2.2.2.2.2.2.2.2.2.2.2.2.2.2.2.1.2.1, y0.2.2.2.2.2.2.2.2.2.2.2.2.2.2.2.2.1.2.2.1, y0.2.2.2.2.2.2.2.2.2.2.2.2.2.2.2.2.1.2.2.2.1, y0.2.2.2.2.2.2.2.2.2.2.2.2.2.2.2.2.1.2.2.2.2.1, y0.2.2.2.2.2.2.2.2.2.2.2.2.2.2.2.2.1.2.2.2.2.2.1, y0.2.2.2.2.2.2.2.2.2.2.2.2.2.2.2.2.1.2.2.2.2.2.2⟩, ⟨y0.2.2.2.2.2.2.2.2.2.2.2.2.2.2.2.2.2.1.1.1, y0.2.2.2.2.2.2.2.2.2.2.2.2.2.2.2.2.2.1.1.2.1, y0.2.2.2.2.2.2.2.2.2.2.2.2.2.2.2.2.2.1.1.2.2.1, y0.2.2.2.2.2.2.2.2.2.2.2.2.2.2.2.2.2.1.1.2.2.2.1, y0.2.2.2.2.2.2.2.2.2.2.2.2.2.2.2.2.2.1.1.2.2.2.2.1, y0.2.2.2.2.2.2.2.2.2.2.2.2.2.2.2.2.2.1.1.2.2.2.2.2.1, y0.2.2.2.2.2.2.2.2.2.2.2.2.2.2.2.2.2.1.1.2.2.2.2.2.2.1, y0.2.2.2.2.2.2.2.2.2.2.2.2.2.2.2.2.2.1.1.2.2.2.2.2.2.2.1, y0.2.2.2.2.2.2.2.2.2.2.2.2.2.2.2.2.2.1.1.2.2.2.2.2.2.2.2.1, y0.2.2.2.2.2.2.2.2.2.2.2.2.2.2.2.2.2.1.1.2.2.2.2.2.2.2.2.2.1, y0.2.2.2.2.2.2.2.2.2.2.2.2.2.2.2.2.2.1.1.2.2.2.2.2.2.2.2.2.2⟩, ⟨y0.2.2.2.2.2.2.2.2.2.2.2.2.2.2.2.2.2.1.2.1, y0.2.2.2.2.2.2.2.2.2.2.2.2.2.2.2.2.2.1.2.2.1, y0.2.2.2.2.2.2.2.2.2.2.2.2.2.2.2.2.2.1.2.2.2.1, y0.2.2.2.2.2.2.2.2.2.2.2.2.2.2.2.2.2.1.2.2.2.2.1, y0.2.2.2.2.2.2.2.2.2.2.2.2.2.2.2.2.2.1.2.2.2.2.2.1, y0.2.2.2.2.2.2.2.2.2.2.2.2.2.2.2.2.2.1.2.2.2.2.2.2.1, y0.2.2.2.2.2.2.2.2.2.2.2.2.2.2.2.2.2.1.2.2.2.2.2.2.2.1, y0.2.2.2.2.2.2.2.2.2.2.2.2.2.2.2.2.2.1.2.2.2.2.2.2.2.2.1, y0.2.2.2.2.2.2.2.2.2.2.2.2.2.2.2.2.2.1.2.2.2.2.2.2.2.2.2.1, y0.2.2.2.2.2.2.2.2.2.2.2.2.2.2.2.2.2.1.2.2.2.2.2.2.2.2.2.2.1, y0.2.2.2.2.2.2.2.2.2.2.2.2.2.2.2.2.2.1.2.2.2.2.2.2.2.2.2.2.2⟩, y0.2.2.2.2.2.2.2.2.2.2.2.2.2.2.2.2.2.2.1, y0.2.2.2.2.2.2.2.2.2.2.2.2.2.2.2.2.2.2.2.1, y0.2.2.2.2.2.2.2.2.2.2.2.2.2.2.2.2.2.2.2.2.1, y0.2.2.2.2.2.2.2.2.2.2.2.2.2.2.2.2.2.2.2.2.2.1, y0.2.2.2.2.2.2.2.2.2.2.2.2.2.2.2.2.2.2.2.2.2.2.1, y0.2.2.2.2.2.2.2.2.2.2.2.2.2.2.2.2.2.2.2.2.2.2.2⟩ : Fw) (⟨y1.1, y1.2.1, y1.2.2.1, y1.2.2.2⟩ : Fl) y2.1 y2.2) rfl Tryz.func11 (by kernel_rfl) (by kernel_rfl) W [v0, v1, v2] (⟨_, _, rfl, s0, ⟨_, _, rfl, s1, ⟨_, _, rfl, s2, rfl⟩⟩⟩) trivial).mono fun e W' he => ?_
  obtain ⟨u, rfl, bel, rfl⟩ := he
  exact ⟨_, rfl, _, _, _, [], _, [], hW', trodAll_mk1 (shut_bool Tryz.underlying4 _), (trodAll_cons_mk (Below.trod powerTicks_laid (by kernel_rfl) (of_decide_eq_true (by kernel_rfl)) h0 bel lt0) (trodAll_cons_mk (Below.trod powerTicks_laid (by kernel_rfl) (of_decide_eq_true (by kernel_rfl)) h1 bel lt1) (trodAll_cons_mk (Below.trod powerTicks_laid (by kernel_rfl) (of_decide_eq_true (by kernel_rfl)) h2 bel lt2) trodAll_mk0))), rfl, bel.frame _, fun h => by cases h⟩

theorem powerTicks_over : Rows.powerTicksRow.holds Tryz.pinned (OpenSpec.ofChange Rows.powerTicksSpec) :=
  OpenClaim.holds_of_wide 11 Tryz.f11 rfl rfl rfl rfl rfl rfl rfl ⟨rfl, rfl, rfl, rfl, rfl⟩ rfl rfl rfl rfl rfl (by kernel_rfl) Tryz.func11 powerTicks_closed
    (of_decide_eq_true (by kernel_rfl)) (by unfold Func.isWrapper; first | (rw [if_pos (by decide +kernel)]; kernel_rfl) | (rw [if_neg (by decide +kernel)]; exact ⟨rfl, rfl⟩))
    (fun os started H enc _ => powerTicks_lifted os started H enc)

theorem powerTicks_proved : Rows.PowerTicksSaid := powerTicks_over
end Go.Proofs.YtnkaepnblikcdaaGreat
