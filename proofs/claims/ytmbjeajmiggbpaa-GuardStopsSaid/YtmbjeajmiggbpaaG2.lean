/-
  G2: the contracts of small functions: ranges, clamps, validity, restart. Written by gen.py.
-/
import Derived.Test.YtmbjeajmiggbpaaG1
set_option linter.unusedSimpArgs false
set_option linter.unusedVariables false
set_option maxRecDepth 100000
namespace Go.Proofs.Ytmbjeajmiggbpaa
open Go.Sx
theorem s_within (a b c : Int) : SCall Try.prog 26 [i64 a, i64 b, i64 c] (.bool (inR a b c)) :=
  scall_v mix [] trivial 1000 (.fork (.lit (.lit (.lit (.all)))) (.lit (.lit (.lit (.all)))))
   (t := .node (decide (a ≥ b))
 (.leaf (SV.bool (decide (a ≤ c))))
 (.leaf (SV.bool false)))
   (by kernel_rfl) (by simp [Tree.holds, inR]; grind) (by kernel_rfl) (by kernel_rfl)
theorem o_within : fWithin.ok Try.prog := on3_ok s_within
theorem s_in (a b c : Int) : SCall Try.prog 27 [i64 a, i64 b, i64 c] (.bool (inR a b c)) :=
  scall_v mix [] trivial 1000 (.fork (.lit (.lit (.lit (.all)))) (.lit (.lit (.lit (.all)))))
   (t := .node (decide (a ≥ b))
 (.leaf (SV.bool (decide (a ≤ c))))
 (.leaf (SV.bool false)))
   (by kernel_rfl) (by simp [Tree.holds, inR]; grind) (by kernel_rfl) (by kernel_rfl)
theorem o_in : fIn.ok Try.prog := on3_ok s_in
theorem s_clampA (a b c : Int) : SCall Try.prog 24 [i64 a, i64 b, i64 c] (i64 (clampA a b c)) :=
  scall_v mix [] trivial 1000 (.all)
   (t := .leaf (i64 (if (if c < a then c else a) > b then if c < a then c else a else b)))
   (by kernel_rfl) (by exact rfl) (by kernel_rfl) (by kernel_rfl)
theorem o_clampA : fClampA.ok Try.prog := on3_ok s_clampA
theorem s_clampB (a b c : Int) : SCall Try.prog 25 [i64 a, i64 b, i64 c] (i64 (clampB a b c)) :=
  scall_v mix [] trivial 1000 (.fork (.all) (.fork (.all) (.all)))
   (t := .node (decide (a < b))
 (.leaf (i64 b))
 (.node (decide (a > c))
  (.leaf (i64 c))
  (.leaf (i64 a))))
   (by kernel_rfl) (by simp only [Tree.holds, clampB, i64]; grind) (by kernel_rfl) (by kernel_rfl)
theorem o_clampB : fClampB.ok Try.prog := on3_ok s_clampB
theorem s_valid (g : G) : SCall Try.prog 11 [g.sv] (.bool g.valid) :=
  scall_v mix [fWithin] ⟨o_within, trivial⟩ 1000 (.fork (.lit (.lit (.lit (.lit (.lit (.lit (.lit (.lit (.lit (.lit (.lit (.lit (.lit (.lit (.lit (.all)))))))))))))))) (.lit (.lit (.lit (.lit (.fork (.lit (.lit (.lit (.lit (.lit (.lit (.lit (.lit (.lit (.lit (.all))))))))))) (.lit (.lit (.lit (.lit (.fork (.lit (.lit (.lit (.lit (.lit (.all)))))) (.lit (.lit (.lit (.lit (.fork (.all) (.fork (.lit (.lit (.lit (.lit (.lit (.lit (.lit (.lit (.lit (.lit (.lit (.lit (.lit (.lit (.lit (.all)))))))))))))))) (.lit (.lit (.lit (.lit (.fork (.lit (.lit (.lit (.lit (.lit (.lit (.lit (.lit (.lit (.lit (.all))))))))))) (.lit (.lit (.lit (.lit (.fork (.lit (.lit (.lit (.lit (.lit (.all)))))) (.lit (.lit (.lit (.lit (.fork (.all) (.fork (.lit (.lit (.lit (.lit (.lit (.fork (.lit (.lit (.lit (.all)))) (.lit (.lit (.lit (.all)))))))))) (.lit (.lit (.lit (.lit (.lit (.lit (.lit (.lit (.lit (.all)))))))))))))))))))))))))))))))))))))))))))
   (t := .node (decide (g.low > g.high))
 (.leaf (SV.bool false))
 (.node (!inR g.low (-1073741824) 1073741824)
  (.leaf (SV.bool false))
  (.node (!inR g.high (-1073741824) 1073741824)
   (.leaf (SV.bool false))
   (.node (!inR g.base (-1073741824) 1073741824)
    (.leaf (SV.bool false))
    (.node (!inR g.watch 1 1048576)
     (.leaf (SV.bool false))
     (.node (!inR g.idle 1 1048576)
      (.leaf (SV.bool false))
      (.node (!inR g.rise 1 400000)
       (.leaf (SV.bool false))
       (.node (!inR g.band 0 400000)
        (.leaf (SV.bool false))
        (.node (inR g.count 0 g.watch)
         (.node (inR g.quiet 0 g.idle)
          (.leaf (SV.bool (inR g.fault 0 4)))
          (.leaf (SV.bool false)))
         (.leaf (SV.bool false)))))))))))
   (by kernel_rfl) (by 
    simp only [Tree.holds, Bool.not_eq_true', Bool.not_eq_false', decide_eq_true_eq, decide_eq_false_iff_not]
    repeat' (first | apply And.intro | intro _)
    all_goals (simp_all [G.valid]; try omega)) (by kernel_rfl) (by kernel_rfl)
theorem o_valid : fValid.ok Try.prog := onG_ok s_valid
theorem s_validR (g : G) : SCall Try.prog 12 [g.sv] (.bool g.valid) :=
  scall_v mix [fIn] ⟨o_in, trivial⟩ 1000 (.fork (.lit (.lit (.lit (.lit (.lit (.lit (.lit (.lit (.lit (.lit (.lit (.lit (.lit (.lit (.lit (.all)))))))))))))))) (.lit (.lit (.lit (.lit (.fork (.lit (.lit (.lit (.lit (.lit (.lit (.lit (.lit (.lit (.lit (.all))))))))))) (.lit (.lit (.lit (.lit (.fork (.lit (.lit (.lit (.lit (.lit (.all)))))) (.lit (.lit (.lit (.lit (.fork (.all) (.fork (.lit (.lit (.lit (.lit (.lit (.lit (.lit (.lit (.lit (.lit (.lit (.lit (.lit (.lit (.lit (.all)))))))))))))))) (.lit (.lit (.lit (.lit (.fork (.lit (.lit (.lit (.lit (.lit (.lit (.lit (.lit (.lit (.lit (.all))))))))))) (.lit (.lit (.lit (.lit (.fork (.lit (.lit (.lit (.lit (.lit (.all)))))) (.lit (.lit (.lit (.lit (.fork (.all) (.fork (.lit (.lit (.lit (.lit (.lit (.fork (.lit (.lit (.lit (.all)))) (.lit (.lit (.lit (.all)))))))))) (.lit (.lit (.lit (.lit (.lit (.lit (.lit (.lit (.lit (.all)))))))))))))))))))))))))))))))))))))))))))
   (t := .node (decide (g.low > g.high))
 (.leaf (SV.bool false))
 (.node (!inR g.low (-1073741824) 1073741824)
  (.leaf (SV.bool false))
  (.node (!inR g.high (-1073741824) 1073741824)
   (.leaf (SV.bool false))
   (.node (!inR g.base (-1073741824) 1073741824)
    (.leaf (SV.bool false))
    (.node (!inR g.watch 1 1048576)
     (.leaf (SV.bool false))
     (.node (!inR g.idle 1 1048576)
      (.leaf (SV.bool false))
      (.node (!inR g.rise 1 400000)
       (.leaf (SV.bool false))
       (.node (!inR g.band 0 400000)
        (.leaf (SV.bool false))
        (.node (inR g.count 0 g.watch)
         (.node (inR g.quiet 0 g.idle)
          (.leaf (SV.bool (inR g.fault 0 4)))
          (.leaf (SV.bool false)))
         (.leaf (SV.bool false)))))))))))
   (by kernel_rfl) (by 
    simp only [Tree.holds, Bool.not_eq_true', Bool.not_eq_false', decide_eq_true_eq, decide_eq_false_iff_not]
    repeat' (first | apply And.intro | intro _)
    all_goals (simp_all [G.valid]; try omega)) (by kernel_rfl) (by kernel_rfl)
theorem o_validR : fValidR.ok Try.prog := onG_ok s_validR
end Go.Proofs.Ytmbjeajmiggbpaa
