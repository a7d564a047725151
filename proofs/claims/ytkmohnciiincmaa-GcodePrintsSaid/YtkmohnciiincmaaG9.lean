/-
  G9: the laws on texts. Written by gen.py.
-/
import Derived.Test.YtkmohnciiincmaaG8
import Derived.Test.YtkmohnciiincmaaGA
set_option linter.unusedSimpArgs false
set_option linter.unusedVariables false
set_option maxRecDepth 100000
namespace Go.Proofs.Ytkmohnciiincmaa
open Go.Sx
theorem s_lawPrints (c : C)(hc : c.good) : SCall Try.prog 4 [c.sv] (.bool true) :=
  scall_v mix [fPrint, fPrintR, fAwake] ⟨o_print, o_printR, o_awake, trivial⟩ 1000 (.fork (.fork (.fork (.lit (.lit (.lit (.lit (.lit (.all)))))) (.lit (.lit (.lit (.lit (.lit (.all))))))) (.fork (.lit (.lit (.lit (.lit (.lit (.all)))))) (.lit (.lit (.lit (.lit (.lit (.all)))))))) (.fork (.fork (.lit (.lit (.lit (.lit (.lit (.all)))))) (.lit (.lit (.lit (.lit (.lit (.all))))))) (.lit (.lit (.lit (.lit (.lit (.lit (.all)))))))))
   (t := .node (c.valid)
 (.node (c.validR)
  (.node (c.text == c.text)
   (.leaf (SV.bool true))
   (.leaf (SV.bool false)))
  (.node (c.text == [])
   (.leaf (SV.bool false))
   (.leaf (SV.bool false))))
 (.node (c.validR)
  (.node ([] == c.text)
   (.leaf (SV.bool false))
   (.leaf (SV.bool false)))
  (.leaf (SV.bool true))))
   (by kernel_rfl) (by 
    simp only [Tree.holds]
    have := valid_eq hc.1 hc.2
    simp_all) (by kernel_rfl) (by kernel_rfl)
theorem s_lawApart (a b : C)(ha : a.good) (hb : b.good) : SCall Try.prog 5 [a.sv, b.sv] (.bool true) :=
  scall_v mix [fPrint, fPrintR, fAwake] ⟨o_print, o_printR, o_awake, trivial⟩ 1000 (.fork (.fork (.lit (.lit (.lit (.lit (.lit (.lit (.lit (.lit (.lit (.lit (.lit (.fork (.lit (.all)) (.lit (.all)))))))))))))) (.lit (.lit (.lit (.lit (.lit (.lit (.lit (.lit (.lit (.lit (.lit (.lit (.lit (.all))))))))))))))) (.fork (.lit (.lit (.lit (.lit (.lit (.lit (.lit (.lit (.lit (.lit (.lit (.lit (.lit (.all)))))))))))))) (.lit (.lit (.lit (.lit (.lit (.lit (.lit (.lit (.lit (.lit (.lit (.lit (.lit (.all))))))))))))))))
   (t := .node (a.valid)
 (.node (b.valid)
  (.node ((a.text == b.text) == (a.code == b.code && (a.has == b.has && (a.x == b.x && (a.y == b.y && (a.z == b.z && (a.e == b.e && (a.f == b.f && (a.s == b.s && true)))))))))
   (.leaf (SV.bool true))
   (.leaf (SV.bool false)))
  (.leaf (SV.bool true)))
 (.node (b.valid)
  (.leaf (SV.bool true))
  (.leaf (SV.bool true))))
   (by kernel_rfl) (by 
    have key := fun va vb => apart_eq ha hb va vb
    simp only [Tree.holds]
    refine ⟨fun va => ⟨fun vb => ⟨fun _ => trivial, fun h => ?_⟩, fun _ => trivial⟩, fun _ => ⟨fun _ => trivial, fun _ => trivial⟩⟩
    rw [key va vb] at h; cases h) (by kernel_rfl) (by kernel_rfl)
end Go.Proofs.Ytkmohnciiincmaa
