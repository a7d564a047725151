/-
  StlMost: the tied card, out of the contract. Written by dshell.py.
-/
import Derived.Test.YtlhkgeoahblffaaDoorRows
import Derived.Test.YtlhkgeoahblffaaDoorCards
import Derived.Test.YtlhkgeoahblffaaDoorTie
import Derived.Test.YtlhkgeoahblffaaDoorZA1
import Derived.Test.YtlhkgeoahblffaaDoorZE1
import Derived.OpenShut
import Derived.ShutString
import Derived.ChangeOld
import Derived.Below
import Derived.Lay
import Derived.SevenTiedAt
namespace Go.Proofs.YtlhkgeoahblffaaDoor
open Go.ChangeShapes Go.WideShapes Go.ChangeAt Go.RowKit
open Go.Sx
set_option linter.unusedVariables false
set_option maxRecDepth 100000

theorem stlMost_own : ownKnob Tryd.prog.godebug = none := by kernel_rfl
theorem stlMost_laid : laidOutB Tryd.prog = true := by kernel_rfl

theorem stlMost_lifted (os : Os) (started : os.Started) (H : Type) (enc : TypeId × Value → H) :
    ReturnsInHanded {} Tryd.checked os 12 .any (fun w args => (Rows.stlMostSpec.pre enc Tryd.prog Tryd.f12 [] false w args ∧ laidMetH Tryd.prog Rows.stlMostRow.laid w) ∧ sizedMet enc Tryd.prog Tryd.f12 (OpenSpec.ofChange Rows.stlMostSpec) false w args)
      (Rows.stlMostSpec.post enc Tryd.prog Tryd.f12 false true false false) := by
  refine returnsIn_both (C := Tryd.checked) (X := fun w _ => laidMetH Tryd.prog Rows.stlMostRow.laid w) (fun _ _ _ hh h => h.of_heap hh) stlMost_own started (by kernel_rfl) Tryd.func12
    (ChangeSpec.witness_shaped (enc := enc) (C := Tryd.checked) (os := os) (X := fun w _ => laidMetH Tryd.prog Rows.stlMostRow.laid w) false (World.laidAll Tryd.prog os Rows.stlMostRow.laid) #[.int .u8 0] 8 (World.laidAll_os _ _ _)
      (World.shaped_of_ZipB (by kernel_rfl) (by kernel_rfl)) (by kernel_rfl) (by kernel_rfl) (by kernel_rfl)
      (by rw [MakeChecks.laidMetH_plain _ _ _ (by kernel_rfl)]; exact laidMet_laidAll _ (by kernel_rfl) (by kernel_rfl))) ?_
  intro W base args ds gs before hval0 hW hshp _
  have hval : ∀ (j : Nat) t v, Tryd.f12.params[j]? = some t → args[j]? = some v → Value.okWide Tryd.prog W .any base t v := hval0
  have hW' := hW
  obtain ⟨p, q, hA0, hV, rfl, hfz, hnd⟩ := hW'
  have hA : DataW.TrodAll enc Tryd.prog W 0 (fun _ => true) true Tryd.f12.params.toList args.toList ds p := hA0
  rw [Tryd.params12] at hA hval
  obtain ⟨v0, vs0, d0, ds0, p0, q0, hargs, rfl, rfl, h0, r0⟩ := trodAll_cons hA
  obtain ⟨rfl, rfl, rfl⟩ := trodAll_nil r0
  obtain rfl : args = #[v0] := by cases args; simp_all
  obtain ⟨rfl, rfl⟩ := trodVars_none hV
  have lt0 : ∀ x ∈ p0, x.block < W.heap.size := by obtain ⟨m, hm⟩ := h0; exact DataW.trod_lt m _ _ _ hm
  obtain ⟨y0, w0, s0⟩ := argOf_int (d := 1) (by kernel_rfl) Tryd.underlying5 (hval 0 5 v0 rfl rfl) h0
  clear hA0 hval0
  refine (SCall.calls_some (s_lawMost y0 (wf8 w0)) rfl Tryd.func12 (by kernel_rfl) (by kernel_rfl) W [v0] (⟨_, _, rfl, s0, rfl⟩) hshp).mono fun e W' he => ?_
  obtain ⟨u, rfl, bel, rfl⟩ := he
  exact ⟨_, rfl, _, _, _, [], _, [], hW, trodAll_mk1 (shut_bool Tryd.underlying4 _), (trodAll_cons_mk (Below.trod stlMost_laid (by kernel_rfl) (of_decide_eq_true (by kernel_rfl)) h0 bel lt0) trodAll_mk0), rfl, bel.frame _, fun h => by cases h⟩

theorem stlMost_over : Rows.stlMostRow.holds Tryd.pinned (OpenSpec.ofChange Rows.stlMostSpec) :=
  OpenClaim.holds_of_wide 12 Tryd.f12 rfl rfl rfl rfl rfl rfl rfl ⟨rfl, rfl, rfl, rfl, rfl⟩ rfl rfl rfl rfl rfl (by kernel_rfl) Tryd.func12 (by kernel_rfl)
    (of_decide_eq_true (by kernel_rfl)) (by unfold Func.isWrapper; first | (rw [if_pos (by decide +kernel)]; kernel_rfl) | (rw [if_neg (by decide +kernel)]; exact ⟨rfl, rfl⟩))
    (fun os started H enc _ => stlMost_lifted os started H enc)

theorem stlMost_proved : Rows.StlMostCardSaid :=
  Claim7.holds_tied_plain_at .later [] [.data, .pinned] true (true, "9090c5ffdc91385a6202e3370fa2d69f8aa0054ed27fc9996543e07f4ed766eb") true
    stlMost_over (fun _ h => by cases h) (by kernel_rfl) (fun _ h => by cases h) stlMost_row_tie rfl ⟨rfl, rfl⟩ (by kernel_rfl) rfl
    (fun f fn hf hfn => by
      obtain rfl : f = 12 := Option.some.inj ((show Tryd.prog.funcNamed "additive/additivelaw08.StlMost" = some 12 by kernel_rfl).symm.trans hf) |>.symm
      obtain rfl : fn = Tryd.f12 := (Option.some.inj (Tryd.func12.symm.trans hfn)).symm
      exact ⟨by kernel_rfl, fun j t ht => by
        rw [Tryd.params12] at ht
        have hm : t ∈ [5] := by simpa using Array.mem_of_getElem? ht
        have hall : ([5].all fun u => !Tryd.prog.wantsStandIn u) = true := by kernel_rfl
        exact (show Tryd.prog.wantsStandIn t = false by simpa using List.all_eq_true.1 hall t hm)⟩)
    (by kernel_rfl)

end Go.Proofs.YtlhkgeoahblffaaDoor
