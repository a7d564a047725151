/-
  GS: one byte changed, and the law. Written by gen.py.
-/
import Derived.Test.YtibpodgdondakaaGT
set_option linter.unusedSimpArgs false
set_option linter.unusedVariables false
set_option maxRecDepth 100000
namespace Go.Proofs.Ytibpodgdondakaa
open Go.Sx
theorem s_chg (s : List UInt8) (k c : Int)(hk : 0 ≤ k ∧ k < (s.length : Int)) (hc : 0 ≤ c ∧ c ≤ 255) : SCall Try.prog 25 [.str s, I64 k, .int .u8 c] (.str (chg s k c)) :=
  scall_v mix [] trivial 1000 (.all)
   (t := .req (decide (0 ≤ k) && decide (k < ((List.map (fun b : UInt8 => (b.toNat : Int)) s).length : Int))) (.req (decide (k.toNat < (List.map (fun b : UInt8 => (b.toNat : Int)) s).length)) (.req (decide (0 ≤ k) && decide (k < ((List.map (fun b : UInt8 => (b.toNat : Int)) s).length : Int))) (.req (decide (k.toNat < (List.map (fun b : UInt8 => (b.toNat : Int)) s).length)) (.leaf (SV.str (List.map (fun n => UInt8.ofNat (Int.toNat n)) ((List.map (fun b : UInt8 => (b.toNat : Int)) s).set k.toNat (IntKind.u8.wrap ↑(BitVec.ofInt 8 ((List.map (fun b : UInt8 => (b.toNat : Int)) s).getD k.toNat 0) ^^^ BitVec.ofInt 8 c).toNat)))))))))
   (by kernel_rfl) (by 
    simp only [Tree.holds, List.length_map, Bool.and_eq_true, decide_eq_true_eq]
    refine ⟨⟨by omega, by omega⟩, by omega, ⟨by omega, by omega⟩, by omega, ?_⟩
    have e1 : (List.map (fun b : UInt8 => (b.toNat : Int)) s).getD k.toNat 0 = ((s.getD k.toNat 0).toNat : Int) := by
      rw [List.getD_eq_getElem?_getD, List.getD_eq_getElem?_getD, List.getElem?_map, List.getElem?_eq_getElem (by omega)]; rfl
    have e2 : c = ((UInt8.ofNat c.toNat).toNat : Int) := by rw [UInt8.toNat_ofNat']; omega
    rw [e1]
    conv => lhs; rw [e2]
    rw [xor8, List.map_set, List.map_map]
    unfold chg
    congr 2
    · conv => rhs; rw [← List.map_id s]
      refine List.map_congr_left fun b _ => ?_
      simp
    · simp only [Int.toNat_natCast, UInt8.ofNat_toNat]) (by kernel_rfl) (by kernel_rfl)
def fChg : Fact := ⟨25, fun args => match args with
  | [.str s, .int .i64 k, .int .u8 c] => some (.req (decide (0 ≤ k) && (decide (k < (List.length s : Int)) && (decide (0 ≤ c) && decide (c ≤ 255)))) (.leaf (.str (chg s k c))))
  | _ => none⟩
theorem o_chg : fChg.ok Try.prog := fun args t ht => by
  simp only [fChg] at ht
  split at ht
  · injection ht with ht; subst ht
    intro h
    simp only [Bool.and_eq_true, decide_eq_true_eq] at h
    exact s_chg _ _ _ ⟨h.1, h.2.1⟩ h.2.2
  · cases ht
end Go.Proofs.Ytibpodgdondakaa
