/-
  G1: the link between host and printer, in plain words of Lean: bytes, texts, numbers.
-/
import Derived.Test.YtibpodgdondakaaSx22
import Derived.Test.YtibpodgdondakaaProg
import Derived.Lib.Bytealg
import Derived.Laws.StandIn
set_option linter.unusedSimpArgs false
set_option linter.unusedVariables false
namespace Go.Proofs.Ytibpodgdondakaa
open Go.Sx

theorem mix : Try.prog.follows .mixedOrders = true := by kernel_rfl
theorem hK {l : List Fact} (h : allOk Try.prog l) : Known Try.prog (Env.of Try.prog (sumOf l)) := known_of mix (sumOf_ok l h.all)

/-- A text of bearable length. -/
def small (s : List UInt8) : Bool := decide ((s.length : Int) ≤ 100000)

/-- Facts on texts. -/
def factL (f : FuncId) (h : List UInt8 → Tree SV) : Fact := ⟨f, fun args => match args with
  | [.str a] => some (.req (small a) (h a))
  | _ => none⟩
theorem factL_ok {P : Program} {f : FuncId} {h : List UInt8 → Tree SV} (k : ∀ a, small a = true → (h a).says (SCall P f [.str a])) : (factL f h).ok P := fun args t ht => by
  simp only [factL] at ht
  split at ht
  · injection ht with ht; subst ht; exact k _
  · cases ht
def factLI (f : FuncId) (h : List UInt8 → Int → Tree SV) : Fact := ⟨f, fun args => match args with
  | [.str a, .int .i64 n] => some (.req (small a) (h a n))
  | _ => none⟩
theorem factLI_ok {P : Program} {f : FuncId} {h : List UInt8 → Int → Tree SV} (k : ∀ a n, small a = true → (h a n).says (SCall P f [.str a, I64 n])) : (factLI f h).ok P := fun args t ht => by
  simp only [factLI] at ht
  split at ht
  · injection ht with ht; subst ht; exact k _ _
  · cases ht
def factLB (f : FuncId) (h : List UInt8 → Int → Tree SV) : Fact := ⟨f, fun args => match args with
  | [.str a, .int .u8 n] => some (.req (small a) (h a n))
  | _ => none⟩
theorem factLB_ok {P : Program} {f : FuncId} {h : List UInt8 → Int → Tree SV} (k : ∀ a n, small a = true → (h a n).says (SCall P f [.str a, .int .u8 n])) : (factLB f h).ok P := fun args t ht => by
  simp only [factLB] at ht
  split at ht
  · injection ht with ht; subst ht; exact k _ _
  · cases ht

/-- The byte at a place, and the letter. -/
def bt (s : List UInt8) (i : Int) : Int := ↑(s.getD i.toNat 0).toNat
def rn (s : List UInt8) (p : Nat) : Int := ↑(Utf8.decode (ByteArray.mk (Array.mk s)) p).fst

/-- Where a byte is. -/
def ix (s : List UInt8) (c : UInt8) : Int := Lib.indexByte s c
theorem s_ix (s : List UInt8) (c : Int) : SCall Try.prog 74 [.str s, .int .u8 c] (I64 (ix s c.toNat.toUInt8)) := by
  intro m w0 R0 ρ w vs hm hvs
  obtain ⟨u, us, rfl, h1, u2, us2, rfl, h2, h3⟩ := hvs
  rw [show u = _ from h1, show u2 = _ from h2, show us2 = [] from h3]
  have e6 := run_callFunc_indexByte (P := Try.prog) Try.func74 (by kernel_rfl) (by kernel_rfl) (by kernel_rfl) (by kernel_rfl) #[.string ⟨⟨s⟩⟩, .int .u8 c] w
  rw [Lib.run_indexByteString] at e6
  have e7 : (callFunc 74 [Value.string ⟨⟨s⟩⟩, Value.int .u8 c].toArray).run Try.prog w = .ok (.value (.int .i64 (ix s c.toNat.toUInt8))) w := e6
  rw [e7]
  exact OpOut.same hm rfl
def fIx : Fact := ⟨74, fun args => match args with
  | [.str a, .int .u8 n] => some (.leaf (I64 (ix a n.toNat.toUInt8)))
  | _ => none⟩
theorem o_ix : fIx.ok Try.prog := fun args t ht => by
  simp only [fIx] at ht
  split at ht
  · injection ht with ht; subst ht; exact s_ix _ _
  · cases ht
end Go.Proofs.Ytibpodgdondakaa
