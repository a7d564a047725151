/-
  G5: the laws on checks. Written by gen.py.
-/
import Derived.Test.YtkmohnciiincmaaG4
set_option linter.unusedSimpArgs false
set_option linter.unusedVariables false
set_option maxRecDepth 100000
namespace Go.Proofs.Ytkmohnciiincmaa
open Go.Sx
def fValid : Fact := factC 7 fun c => .leaf (.bool c.valid)
def fValidR : Fact := factC 8 fun c => .leaf (.bool c.validR)
def fAwake : Fact := fact0 9 (.leaf (.bool true))
theorem o_valid : fValid.ok Try.prog := factC_ok s_valid
theorem o_validR : fValidR.ok Try.prog := factC_ok s_validR
theorem wf64 {n : Int} (h : (Lit.int .i64 n).wf = true) : -9223372036854775808 ≤ n ∧ n ≤ 9223372036854775807 := by
  have h : (decide ((-9223372036854775808 : Int) ≤ n) && decide (n ≤ (9223372036854775807 : Int))) = true := h
  simpa using h
def C.good (c : C) : Prop := -9223372036854775808 ≤ c.has ∧ c.has ≤ 9223372036854775807
theorem s_awake : SCall Try.prog 9 [] (.bool true) := scall_closed mix [fField] ⟨o_field, trivial⟩ 10000 .auto (by kernel_rfl) rfl rfl
theorem o_awake : fAwake.ok Try.prog := fact0_ok s_awake
theorem s_lawValid (c : C)(hc : c.good) : SCall Try.prog 3 [c.sv] (.bool true) :=
  scall_v mix [fValid, fValidR, fAwake] ⟨o_valid, o_validR, o_awake, trivial⟩ 1000 (.fork (.lit (.all)) (.lit (.all)))
   (t := .node (c.valid == c.validR)
 (.leaf (SV.bool true))
 (.leaf (SV.bool false)))
   (by kernel_rfl) (by 
    simp only [Tree.holds]
    have := valid_eq hc.1 hc.2
    simp_all) (by kernel_rfl) (by kernel_rfl)
theorem s_lawCodes (k n : Int) : SCall Try.prog 6 [I64 k, I64 n] (.bool true) :=
  scall_v mix [fValid, fValidR, fAwake, fCodes] ⟨o_valid, o_validR, o_awake, o_codes, trivial⟩ 1000 (.fork (.lit (.lit (.fork (.fork (.lit (.lit (.lit (.lit (.lit (.fork (.lit (.all)) (.lit (.all)))))))) (.lit (.lit (.lit (.lit (.lit (.lit (.lit (.all))))))))) (.fork (.lit (.lit (.lit (.lit (.lit (.fork (.lit (.all)) (.lit (.all)))))))) (.lit (.lit (.lit (.lit (.lit (.lit (.lit (.all)))))))))))) (.lit (.lit (.lit (.fork (.lit (.lit (.lit (.lit (.lit (.fork (.lit (.all)) (.lit (.all)))))))) (.lit (.lit (.lit (.lit (.lit (.lit (.lit (.all)))))))))))))
   (t := .node (decide (k ≥ 0))
 (.node (decide (k < 100))
  (.req (!↑codes.length == 0) (.req (decide (0 ≤ k.tmod ↑codes.length) && decide (k.tmod ↑codes.length < ↑codes.length)) (.node ((C.mk (codes.getD (k.tmod ↑codes.length).toNat (Ty.int IntKind.i64).dflt) 32 0 0 0 0 0 n).valid == (C.mk (codes.getD (k.tmod ↑codes.length).toNat (Ty.int IntKind.i64).dflt) 32 0 0 0 0 0 n).validR)
     (.node ((C.mk (codes.getD (k.tmod ↑codes.length).toNat (Ty.int IntKind.i64).dflt) 0 0 0 0 0 0 0).valid == (C.mk (codes.getD (k.tmod ↑codes.length).toNat (Ty.int IntKind.i64).dflt) 0 0 0 0 0 0 0).validR)
      (.leaf (SV.bool true))
      (.leaf (SV.bool false)))
     (.leaf (SV.bool false)))))
  (.node ((C.mk k 32 0 0 0 0 0 n).valid == (C.mk k 32 0 0 0 0 0 n).validR)
   (.node ((C.mk k 0 0 0 0 0 0 0).valid == (C.mk k 0 0 0 0 0 0 0).validR)
    (.leaf (SV.bool true))
    (.leaf (SV.bool false)))
   (.leaf (SV.bool false))))
 (.node ((C.mk k 32 0 0 0 0 0 n).valid == (C.mk k 32 0 0 0 0 0 n).validR)
  (.node ((C.mk k 0 0 0 0 0 0 0).valid == (C.mk k 0 0 0 0 0 0 0).validR)
   (.leaf (SV.bool true))
   (.leaf (SV.bool false)))
  (.leaf (SV.bool false))))
   (by kernel_rfl) (by 
    have e1 : ∀ k n : Int, (C.mk k 32 0 0 0 0 0 n).valid = (C.mk k 32 0 0 0 0 0 n).validR := fun k n => valid_eq (c := ⟨_, _, _, _, _, _, _, _⟩) (by simp) (by simp)
    have e2 : ∀ k : Int, (C.mk k 0 0 0 0 0 0 0).valid = (C.mk k 0 0 0 0 0 0 0).validR := fun k => valid_eq (c := ⟨_, _, _, _, _, _, _, _⟩) (by simp) (by simp)
    have hl : ((codes.length : Nat) : Int) = 14 := rfl
    simp only [Tree.holds, hl, e1, e2]
    simp
    intro h _
    rw [Int.tmod_eq_emod_of_nonneg h]
    exact ⟨by simp [codes], by omega, by omega⟩) (by kernel_rfl) (by kernel_rfl)
end Go.Proofs.Ytkmohnciiincmaa
