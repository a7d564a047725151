/-
  HG: an argument that is an array of data is a datum of the evaluator.
-/
import Derived.Test.YtnkaepnblikcdaaGreatVTH
set_option linter.unusedVariables false
namespace Go.Sx
open Go.RowKit Go.WideShapes
theorem okWide_arr {P : Program} {w : World} {r : _root_.Go.Reach} {base : Nat} {t : TypeId} {v : Value} {k : Nat} {e : TypeId} (ht : P.underlying t = some (.array k e)) (h : Value.okWide P w r base t v) : ∃ cs, v = .agg cs := by
  simp only [Value.okWide, ht] at h
  obtain ⟨cs, h1, _⟩ := h
  exact ⟨cs, h1⟩
theorem argOf_arr {H : Type} {enc : TypeId × Value → H} {P : Program} {W : World} {t : TypeId} {u : Ty} {d : Nat} {v : Value} {x : DataW H} {ps : List MemPlace} (hu : lay P d t = some u) {k : Nat} {e : TypeId} (ht : P.underlying t = some (.array k e)) {r : _root_.Go.Reach} {b0 : Nat} (hval : Value.okWide P W r b0 t v)
    (hd : DataW.Trod enc P W 0 (fun _ => true) true t v x ps) : ∃ y : u.T, u.fits y ∧ Rep (fun b => b < W.heap.size) (fun _ => (0, 0, 0)) 0 W (.agg (flat u y)) v := by
  obtain ⟨cs, rfl⟩ := okWide_arr ht hval
  obtain ⟨n, hn⟩ := hd
  obtain ⟨y, f, r⟩ := lay_rep d t u hu n _ _ hn
  exact ⟨y, f, cs.toList, rfl, (RepD.flat u y _ r).2⟩
end Go.Sx
