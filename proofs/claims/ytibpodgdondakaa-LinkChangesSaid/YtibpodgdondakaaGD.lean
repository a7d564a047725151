/-
  GD: a copy of a slice is the slice, as data: nil, empty or not.
-/
import Derived.Test.YtibpodgdondakaaGC
set_option linter.unusedSimpArgs false
set_option linter.unusedVariables false
set_option maxRecDepth 100000
namespace Go.Proofs.Ytibpodgdondakaa
open Go.Sx

theorem clone_of {P : Program} {f : FuncId} {t : Ty} (hn : ∀ cap, SCall P f [.raw (.slice none 0 cap)] (.list t [])) (hs : ∀ a cap, SCall P f [.raw (.slice (some a) 0 cap)] (.list t [])) (l : List t.T)
    (hc : ∀ b r, l = b :: r → SCall P f [.list t (b :: r)] (.list t (b :: r))) : SCall P f [.list t l] (.list t l) := by
  cases l with
  | cons b r => exact hc b r rfl
  | nil =>
    intro m w0 R0 ρ w vs hm hvs
    obtain ⟨u, us, rfl, h1, h2⟩ := hvs
    rw [show us = [] from h2]
    obtain ⟨a, cap, hxv, _, _⟩ := h1
    injection hxv with hxv
    subst hxv
    cases a with
    | none => exact hn cap m w0 R0 ρ w [_] hm ⟨_, [], rfl, rfl, rfl⟩
    | some a => exact hs a cap m w0 R0 ρ w [_] hm ⟨_, [], rfl, rfl, rfl⟩

def few2 (n : Nat) : Bool := decide ((n : Int) ≤ 100000)
theorem s_cloS (l : List (List UInt8)) (h : few2 l.length = true) : SCall Try.prog 68 [.list .str l] (.list .str l) := by
  have h : (l.length : Int) ≤ 100000 := by simpa [few2] using h
  refine clone_of (t := .str) (fun cap => ?_) (fun a cap => ?_) l (fun b r hl => ?_)
  · refine scallR_loops rfl rfl (by kernel_rfl) (runsR_seg (hK (l := []) trivial) (n := 1000) (hint := .str) (keep := keepS 8 []) (p := cloSn_p) (boxes := []) rfl ?_)
    have e := cloSn cap
    unfold startS codeS at e
    erw [e]
    exact ⟨rfl, rfl⟩
  · refine scallR_loops rfl rfl (by kernel_rfl) (runsR_seg (hK (l := []) trivial) (n := 1000) (hint := .str) (keep := keepS 8 []) (p := cloSs_p) (boxes := []) rfl ?_)
    have e := cloSs a cap
    unfold startS codeS at e
    erw [e]
    exact ⟨rfl, rfl⟩
  · subst hl
    refine scallR_loops rfl rfl (by kernel_rfl) (runsR_seg (hK (l := []) trivial) (n := 1000) (hint := .str) (keep := keepS 8 []) (p := cloSc_p) (boxes := []) rfl ?_)
    have e := cloSc b r
    unfold startS codeS at e
    erw [e]
    refine ⟨rfl, ?_, rfl⟩
    rw [decide_eq_true_eq]
    have h : ((List.length (α := Ty.T .str) (b :: r) : Nat) : Int) ≤ 100000 := h
    omega
theorem s_cloP (l : List (Ty.T Pk)) (h : few2 (List.length l) = true) : SCall Try.prog 57 [.list Pk l] (.list Pk l) := by
  have h : (List.length l : Int) ≤ 100000 := by simpa [few2] using h
  refine clone_of (t := Pk) (fun cap => ?_) (fun a cap => ?_) l (fun b r hl => ?_)
  · refine scallR_loops rfl rfl (by kernel_rfl) (runsR_seg (hK (l := []) trivial) (n := 1000) (hint := Pk) (keep := keepS 8 []) (p := cloPn_p) (boxes := []) rfl ?_)
    have e := cloPn cap
    unfold startS codeS at e
    erw [e]
    exact ⟨rfl, rfl⟩
  · refine scallR_loops rfl rfl (by kernel_rfl) (runsR_seg (hK (l := []) trivial) (n := 1000) (hint := Pk) (keep := keepS 8 []) (p := cloPs_p) (boxes := []) rfl ?_)
    have e := cloPs a cap
    unfold startS codeS at e
    erw [e]
    exact ⟨rfl, rfl⟩
  · subst hl
    refine scallR_loops rfl rfl (by kernel_rfl) (runsR_seg (hK (l := []) trivial) (n := 1000) (hint := Pk) (keep := keepS 8 []) (p := cloPc_p) (boxes := []) rfl ?_)
    have e := cloPc b r
    unfold startS codeS at e
    erw [e]
    refine ⟨rfl, ?_, rfl⟩
    rw [decide_eq_true_eq]
    omega
def fCloS : Fact := ⟨68, fun args => match args with
  | [.list .str l] => some (.req (few2 (List.length l)) (.leaf (.list .str l)))
  | [.nilS] => some (.leaf (.list .str []))
  | _ => none⟩
def fCloP : Fact := ⟨57, fun args => match args with
  | [.list (.pair .bool (.pair .str .bool)) l] => some (.req (few2 (List.length l)) (.leaf (.list Pk l)))
  | _ => none⟩
theorem nil_list {P : Program} {f : FuncId} {t : Ty} {v : SV} (h : SCall P f [.list t []] v) : SCall P f [.nilS] v := by
  intro m w0 R0 ρ w vs hm hvs
  obtain ⟨u, us, rfl, h1, h2⟩ := hvs
  refine h m w0 R0 ρ w _ hm ⟨u, us, rfl, ?_, h2⟩
  exact ⟨none, 0, by rw [show u = _ from h1]; rfl, Nat.le_refl _, fun h => absurd h (Nat.lt_irrefl _)⟩
theorem o_cloS : fCloS.ok Try.prog := fun args t ht => by
  simp only [fCloS] at ht
  split at ht
  · injection ht with ht; subst ht; exact s_cloS _
  · injection ht with ht; subst ht
    exact nil_list (t := .str) (s_cloS [] rfl)
  · cases ht
theorem o_cloP : fCloP.ok Try.prog := fun args t ht => by
  simp only [fCloP] at ht
  split at ht
  · injection ht with ht; subst ht; exact s_cloP _
  · cases ht
end Go.Proofs.Ytibpodgdondakaa
