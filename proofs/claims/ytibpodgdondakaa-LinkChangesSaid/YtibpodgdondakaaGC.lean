/-
  GC: slices copied. Written by gen.py.
-/
import Derived.Test.YtibpodgdondakaaGA
set_option linter.unusedSimpArgs false
set_option linter.unusedVariables false
set_option maxRecDepth 100000
namespace Go.Proofs.Ytibpodgdondakaa
open Go.Sx
abbrev Pk : Ty := .pair .bool (.pair .str .bool)
def cloSn_p : Plan := .lit (.all)
noncomputable def cloSn_t (cap : Nat) : Tree Stop :=
   .req (true) (.leaf (Stop.done (SV.list Ty.str [])))
theorem cloSn (cap : Nat) : segR (Env.of Try.prog (sumOf [])) 1000 (fnOf Try.prog 68) .str (keepS 8 []) (codeS Try.prog 68) cloSn_p (startS Try.prog 68 [.raw (.slice none 0 cap)]) [] = cloSn_t cap := by kernel_rfl
def cloSs_p : Plan := .lit (.lit (.all))
noncomputable def cloSs_t (a : Addr) (cap : Nat) : Tree Stop :=
   .req (true) (.leaf (Stop.done (SV.list Ty.str [])))
theorem cloSs (a : Addr) (cap : Nat) : segR (Env.of Try.prog (sumOf [])) 1000 (fnOf Try.prog 68) .str (keepS 8 []) (codeS Try.prog 68) cloSs_p (startS Try.prog 68 [.raw (.slice (some a) 0 cap)]) [] = cloSs_t a cap := by kernel_rfl
def cloSc_p : Plan := .lit (.lit (.all))
noncomputable def cloSc_t (b : Ty.T .str) (l : List (Ty.T .str)) : Tree Stop :=
   .req (!(b :: l).isEmpty) (.req (decide ((0 + ((b :: l)).length) * 16 ≤ 140737488355328)) (.leaf (Stop.done (SV.list Ty.str ([] ++ (b :: l))))))
theorem cloSc (b : Ty.T .str) (l : List (Ty.T .str)) : segR (Env.of Try.prog (sumOf [])) 1000 (fnOf Try.prog 68) .str (keepS 8 []) (codeS Try.prog 68) cloSc_p (startS Try.prog 68 [.list .str (b :: l)]) [] = cloSc_t b l := by kernel_rfl
def cloPn_p : Plan := .lit (.all)
noncomputable def cloPn_t (cap : Nat) : Tree Stop :=
   .req (true) (.leaf (Stop.done (SV.list (Ty.bool.pair (Ty.str.pair Ty.bool)) [])))
theorem cloPn (cap : Nat) : segR (Env.of Try.prog (sumOf [])) 1000 (fnOf Try.prog 57) Pk (keepS 8 []) (codeS Try.prog 57) cloPn_p (startS Try.prog 57 [.raw (.slice none 0 cap)]) [] = cloPn_t cap := by kernel_rfl
def cloPs_p : Plan := .lit (.lit (.all))
noncomputable def cloPs_t (a : Addr) (cap : Nat) : Tree Stop :=
   .req (true) (.leaf (Stop.done (SV.list (Ty.bool.pair (Ty.str.pair Ty.bool)) [])))
theorem cloPs (a : Addr) (cap : Nat) : segR (Env.of Try.prog (sumOf [])) 1000 (fnOf Try.prog 57) Pk (keepS 8 []) (codeS Try.prog 57) cloPs_p (startS Try.prog 57 [.raw (.slice (some a) 0 cap)]) [] = cloPs_t a cap := by kernel_rfl
def cloPc_p : Plan := .lit (.lit (.all))
noncomputable def cloPc_t (b : Ty.T Pk) (l : List (Ty.T Pk)) : Tree Stop :=
   .req (!(b :: l).isEmpty) (.req (decide ((0 + ((b :: l)).length) * 32 ≤ 140737488355328)) (.leaf (Stop.done (SV.list (Ty.bool.pair (Ty.str.pair Ty.bool)) ([] ++ (b :: l))))))
theorem cloPc (b : Ty.T Pk) (l : List (Ty.T Pk)) : segR (Env.of Try.prog (sumOf [])) 1000 (fnOf Try.prog 57) Pk (keepS 8 []) (codeS Try.prog 57) cloPc_p (startS Try.prog 57 [.list Pk (b :: l)]) [] = cloPc_t b l := by kernel_rfl
end Go.Proofs.Ytibpodgdondakaa
