/-
  GC: the segments of the readers of numbers and texts. Written by gen.py.
  GE: the reference's reading of numbers (ported from link's texts by portl.py).
  GF: the program's readings of numbers: 'number' and 'Parse'.
  GG: num.Parse: what the program reads is what the reference reads.
  GH: numbers and their texts: what is printed is read again, and what is read has been printed so. (portn.py; tail in XGH.tail)
  GI: num.Parse by its contract; facts of the readers of numbers.
  GJ: the segments of the readers of commands. Written by gen.py.
  GK: the readers of codes, of pieces and of letters: contracts.
  GL: the segments of both Parse. Written by gen.py.
  GM: what both Parse compute, in plain words, and why they agree; commands and their texts.
-/
import Derived.Test.YtkmohnciiincmaaDoorZT5
set_option linter.unusedSimpArgs false
set_option linter.unusedVariables false
set_option maxRecDepth 100000
namespace Go.Proofs.YtkmohnciiincmaaDoor
open Go.Sx
def nu0_p : Plan := .fork (.lit (.lit (.lit (.lit (.lit (.lit (.all))))))) (.lit (.lit (.lit (.fork (.lit (.lit (.lit (.lit (.fork (.all) (.all)))))) (.lit (.lit (.lit (.lit (.lit (.all))))))))))
noncomputable def nu0_t (s : List UInt8) : Tree Stop :=
   .node ((tp s) == [])
 (.leaf (Stop.done (SV.bool false)))
 (.req (decide (0 < ((tp s).length : Int))) (.node ((bt (tp s) 0) == 48)
   (.node (!s == [48])
    (.leaf (Stop.done (SV.bool false)))
    (.leaf (Stop.at (loopOf Tryd.prog 14 0) 30 (slotsS 30 [(20, SV.ptr 0 0)]) [some (Box.iter ((tp s)) 0)])))
   (.leaf (Stop.at (loopOf Tryd.prog 14 0) 30 (slotsS 30 [(20, SV.ptr 0 0)]) [some (Box.iter ((tp s)) 0)]))))
theorem nu0 (s : List UInt8) : segR (Env.of Tryd.prog (sumOf [fTrim])) 1000 (fnOf Tryd.prog 14) .unit (keepS 30 [20]) (codeS Tryd.prog 14) nu0_p (startS Tryd.prog 14 [.str s]) [] = nu0_t s := by kernel_rfl
def nu1_p : Plan := .fork (.lit (.fork (.lit (.lit (.lit (.all)))) (.lit (.lit (.fork (.all) (.all)))))) (.lit (.all))
noncomputable def nu1_t (s : List UInt8) (p : Nat) : Tree Stop :=
   .node (decide (p < s.length))
 (.node (decide ((rn s p) < 48))
  (.leaf (Stop.done (SV.bool false)))
  (.node (decide ((rn s p) > 57))
   (.leaf (Stop.done (SV.bool false)))
   (.leaf (Stop.at (loopOf Tryd.prog 14 0) 30 (slotsS 30 [(20, SV.ptr 0 0)]) [some (Box.iter s (p + (Utf8.decode (ByteArray.mk (Array.mk s)) p).snd))]))))
 (.leaf (Stop.done (SV.bool true)))
theorem nu1 (s : List UInt8) (p : Nat) : segR (Env.of Tryd.prog (sumOf [fTrim])) 1000 (fnOf Tryd.prog 14) .unit (keepS 30 [20]) (loopOf Tryd.prog 14 0) nu1_p (slotsS 30 [(20, .ptr 0 0)]) [some (.iter s p)] = nu1_t s p := by kernel_rfl
def np0_p : Plan := .fork (.lit (.lit (.lit (.fork (.all) (.all))))) (.lit (.lit (.lit (.lit (.all)))))
noncomputable def np0_t (s : List UInt8) : Tree Stop :=
   .node (decide ((↑s.length : Int) > 0))
 (.req (decide (0 < (↑s.length : Int))) (.node ((bt s 0) == 45)
   (.req (decide (1 ≤ (↑s.length : Int))) (.leaf (Stop.at (loopOf Tryd.prog 15 0) 99 (slotsS 99 [(4, SV.bool ((bt s 0) == 45)), (5, SV.str (List.drop 1 s)), (6, SV.bool (decide (((List.drop 1 s).length : Int) > 0))), (7, SV.bool false), (8, SV.int IntKind.u64 0), (9, I64 0)]) [])))
   (.leaf (Stop.at (loopOf Tryd.prog 15 0) 99 (slotsS 99 [(4, SV.bool ((bt s 0) == 45)), (5, SV.str s), (6, SV.bool (decide ((↑s.length : Int) > 0))), (7, SV.bool false), (8, SV.int IntKind.u64 0), (9, I64 0)]) []))))
 (.leaf (Stop.at (loopOf Tryd.prog 15 0) 99 (slotsS 99 [(4, SV.bool false), (5, SV.str s), (6, SV.bool (decide ((↑s.length : Int) > 0))), (7, SV.bool false), (8, SV.int IntKind.u64 0), (9, I64 0)]) []))
theorem np0 (s : List UInt8) : segR (Env.of Tryd.prog (sumOf [])) 1000 (fnOf Tryd.prog 15) .unit (keepS 99 [4,5,6,7,8,9]) (codeS Tryd.prog 15) np0_p (startS Tryd.prog 15 [.str s]) [] = np0_t s := by kernel_rfl
def np1_p : Plan := .fork (.fork (.lit (.lit (.lit (.lit (.lit (.lit (.lit (.lit (.lit (.lit (.lit (.all)))))))))))) (.lit (.lit (.fork (.lit (.lit (.lit (.lit (.lit (.lit (.lit (.lit (.all))))))))) (.lit (.lit (.fork (.lit (.lit (.lit (.lit (.fork (.lit (.fork (.lit (.lit (.lit (.lit (.lit (.lit (.lit (.lit (.lit (.all)))))))))) (.lit (.lit (.lit (.lit (.lit (.lit (.lit (.fork (.lit (.all)) (.fork (.lit (.lit (.lit (.lit (.lit (.lit (.lit (.lit (.all))))))))) (.lit (.lit (.lit (.lit (.lit (.lit (.lit (.fork (.all) (.all)))))))))))))))))))) (.lit (.lit (.lit (.lit (.lit (.lit (.fork (.lit (.lit (.lit (.lit (.lit (.lit (.lit (.lit (.all))))))))) (.lit (.lit (.lit (.lit (.lit (.lit (.lit (.fork (.all) (.all))))))))))))))))))))) (.lit (.lit (.lit (.lit (.lit (.lit (.lit (.lit (.lit (.lit (.lit (.fork (.lit (.lit (.lit (.lit (.lit (.lit (.lit (.lit (.all))))))))) (.lit (.lit (.lit (.lit (.lit (.lit (.lit (.fork (.all) (.all)))))))))))))))))))))))))))) (.fork (.all) (.fork (.lit (.lit (.lit (.lit (.lit (.lit (.lit (.lit (.all))))))))) (.lit (.lit (.fork (.lit (.lit (.lit (.lit (.lit (.all)))))) (.lit (.lit (.fork (.lit (.lit (.lit (.lit (.fork (.all) (.fork (.all) (.all))))))) (.lit (.lit (.lit (.lit (.lit (.fork (.all) (.all)))))))))))))))
noncomputable def np1_t (g : Bool) (d : List UInt8) (ok big : Bool) (u i : Int) : Tree Stop :=
   .node (decide (i < (↑d.length : Int)))
 (.req (decide (0 ≤ i) && decide (i < (↑d.length : Int))) (.node (decide ((bt d i) < 48))
   (.leaf (Stop.done (SV.tuple [I64 0, I64 5])))
   (.node (decide ((bt d i) > 57))
    (.leaf (Stop.done (SV.tuple [I64 0, I64 5])))
    (.node ((bt d i) == 48)
     (.node (i == 0)
      (.node (g)
       (.leaf (Stop.done (SV.tuple [I64 0, I64 5])))
       (.node (decide ((↑d.length : Int) > 1))
        (.leaf (Stop.done (SV.tuple [I64 0, I64 5])))
        (.node (big)
         (.leaf (Stop.at (loopOf Tryd.prog 15 0) 99 (slotsS 99 [(4, SV.bool g), (5, SV.str d), (6, SV.bool ok), (7, SV.bool true), (8, SV.int IntKind.u64 u), (9, I64 (IntKind.i64.wrap (i + 1)))]) []))
         (.req (true) (.node (decide (u > IntKind.u64.wrap ((IntKind.u64.wrap (18446744073709551615 - IntKind.u64.wrap (IntKind.u8.wrap ((bt d i) - 48)))).tdiv 10)))
           (.leaf (Stop.at (loopOf Tryd.prog 15 0) 99 (slotsS 99 [(4, SV.bool g), (5, SV.str d), (6, SV.bool ok), (7, SV.bool true), (8, SV.int IntKind.u64 u), (9, I64 (IntKind.i64.wrap (i + 1)))]) []))
           (.leaf (Stop.at (loopOf Tryd.prog 15 0) 99 (slotsS 99 [(4, SV.bool g), (5, SV.str d), (6, SV.bool ok), (7, SV.bool big), (8, SV.int IntKind.u64 (IntKind.u64.wrap (IntKind.u64.wrap (10 * u) + IntKind.u64.wrap (IntKind.u8.wrap ((bt d i) - 48))))), (9, I64 (IntKind.i64.wrap (i + 1)))]) [])))))))
      (.node (big)
       (.leaf (Stop.at (loopOf Tryd.prog 15 0) 99 (slotsS 99 [(4, SV.bool g), (5, SV.str d), (6, SV.bool ok), (7, SV.bool true), (8, SV.int IntKind.u64 u), (9, I64 (IntKind.i64.wrap (i + 1)))]) []))
       (.req (true) (.node (decide (u > IntKind.u64.wrap ((IntKind.u64.wrap (18446744073709551615 - IntKind.u64.wrap (IntKind.u8.wrap ((bt d i) - 48)))).tdiv 10)))
         (.leaf (Stop.at (loopOf Tryd.prog 15 0) 99 (slotsS 99 [(4, SV.bool g), (5, SV.str d), (6, SV.bool ok), (7, SV.bool true), (8, SV.int IntKind.u64 u), (9, I64 (IntKind.i64.wrap (i + 1)))]) []))
         (.leaf (Stop.at (loopOf Tryd.prog 15 0) 99 (slotsS 99 [(4, SV.bool g), (5, SV.str d), (6, SV.bool ok), (7, SV.bool big), (8, SV.int IntKind.u64 (IntKind.u64.wrap (IntKind.u64.wrap (10 * u) + IntKind.u64.wrap (IntKind.u8.wrap ((bt d i) - 48))))), (9, I64 (IntKind.i64.wrap (i + 1)))]) []))))))
     (.node (big)
      (.leaf (Stop.at (loopOf Tryd.prog 15 0) 99 (slotsS 99 [(4, SV.bool g), (5, SV.str d), (6, SV.bool ok), (7, SV.bool true), (8, SV.int IntKind.u64 u), (9, I64 (IntKind.i64.wrap (i + 1)))]) []))
      (.req (true) (.node (decide (u > IntKind.u64.wrap ((IntKind.u64.wrap (18446744073709551615 - IntKind.u64.wrap (IntKind.u8.wrap ((bt d i) - 48)))).tdiv 10)))
        (.leaf (Stop.at (loopOf Tryd.prog 15 0) 99 (slotsS 99 [(4, SV.bool g), (5, SV.str d), (6, SV.bool ok), (7, SV.bool true), (8, SV.int IntKind.u64 u), (9, I64 (IntKind.i64.wrap (i + 1)))]) []))
        (.leaf (Stop.at (loopOf Tryd.prog 15 0) 99 (slotsS 99 [(4, SV.bool g), (5, SV.str d), (6, SV.bool ok), (7, SV.bool big), (8, SV.int IntKind.u64 (IntKind.u64.wrap (IntKind.u64.wrap (10 * u) + IntKind.u64.wrap (IntKind.u8.wrap ((bt d i) - 48))))), (9, I64 (IntKind.i64.wrap (i + 1)))]) [])))))))))
 (.node (!ok)
  (.leaf (Stop.done (SV.tuple [I64 0, I64 5])))
  (.node (big)
   (.leaf (Stop.done (SV.tuple [I64 0, I64 3])))
   (.node (decide (u > 9223372036854775808))
    (.leaf (Stop.done (SV.tuple [I64 0, I64 3])))
    (.node (u == 9223372036854775808)
     (.node (!g)
      (.leaf (Stop.done (SV.tuple [I64 0, I64 3])))
      (.node (g)
       (.leaf (Stop.done (SV.tuple [I64 (IntKind.i64.wrap (IntKind.u64.wrap (0 - u))), I64 0])))
       (.leaf (Stop.done (SV.tuple [I64 (IntKind.i64.wrap u), I64 0])))))
     (.node (g)
      (.leaf (Stop.done (SV.tuple [I64 (IntKind.i64.wrap (IntKind.u64.wrap (0 - u))), I64 0])))
      (.leaf (Stop.done (SV.tuple [I64 (IntKind.i64.wrap u), I64 0]))))))))
theorem np1 (g : Bool) (d : List UInt8) (ok big : Bool) (u i : Int) : segR (Env.of Tryd.prog (sumOf [])) 1000 (fnOf Tryd.prog 15) .unit (keepS 99 [4,5,6,7,8,9]) (loopOf Tryd.prog 15 0) np1_p (slotsS 99 [(4, .bool g), (5, .str d), (6, .bool ok), (7, .bool big), (8, .int .u64 u), (9, I64 i)]) [] = np1_t g d ok big u i := by kernel_rfl
def parse0_p : Plan := .fork (.lit (.lit (.lit (.fork (.fork (.lit (.lit (.lit (.lit (.lit (.lit (.lit (.all)))))))) (.lit (.lit (.lit (.lit (.fork (.lit (.lit (.lit (.lit (.lit (.fork (.all) (.all))))))) (.lit (.lit (.lit (.lit (.lit (.lit (.all))))))))))))) (.fork (.lit (.lit (.lit (.lit (.lit (.lit (.lit (.all)))))))) (.lit (.lit (.lit (.lit (.fork (.lit (.lit (.lit (.lit (.lit (.fork (.all) (.all))))))) (.lit (.lit (.lit (.lit (.lit (.lit (.all))))))))))))))))) (.lit (.lit (.lit (.lit (.fork (.lit (.lit (.lit (.lit (.lit (.lit (.lit (.all)))))))) (.lit (.lit (.lit (.lit (.fork (.lit (.lit (.lit (.lit (.lit (.fork (.all) (.all))))))) (.lit (.lit (.lit (.lit (.lit (.lit (.all)))))))))))))))))
noncomputable def parse0_t (s : List UInt8) : Tree Stop :=
   .node (decide ((↑s.length : Int) > 0))
 (.req (decide (0 < (↑s.length : Int))) (.node ((bt s 0) == 45)
   (.node ((↑s.length : Int) == 1)
    (.leaf (Stop.done (SV.tuple [I64 0, I64 5])))
    (.req (decide (1 < (↑s.length : Int))) (.node ((bt s 1) == 48)
      (.node (decide ((↑s.length : Int) > 1))
       (.leaf (Stop.done (SV.tuple [I64 0, I64 5])))
       (.leaf (Stop.at (loopOf Tryd.prog 21 0) 77 (slotsS 77 [(0, SV.str s), (4, I64 1), (5, I64 1), (6, SV.undef), (7, SV.undef)]) [])))
      (.leaf (Stop.at (loopOf Tryd.prog 21 0) 77 (slotsS 77 [(0, SV.str s), (4, I64 1), (5, I64 1), (6, SV.undef), (7, SV.undef)]) [])))))
   (.node ((↑s.length : Int) == 0)
    (.leaf (Stop.done (SV.tuple [I64 0, I64 5])))
    (.req (decide (0 < (↑s.length : Int))) (.node ((bt s 0) == 48)
      (.node (decide ((↑s.length : Int) > 1))
       (.leaf (Stop.done (SV.tuple [I64 0, I64 5])))
       (.leaf (Stop.at (loopOf Tryd.prog 21 0) 77 (slotsS 77 [(0, SV.str s), (4, I64 0), (5, I64 0), (6, SV.undef), (7, SV.undef)]) [])))
      (.leaf (Stop.at (loopOf Tryd.prog 21 0) 77 (slotsS 77 [(0, SV.str s), (4, I64 0), (5, I64 0), (6, SV.undef), (7, SV.undef)]) [])))))))
 (.node ((↑s.length : Int) == 0)
  (.leaf (Stop.done (SV.tuple [I64 0, I64 5])))
  (.req (decide (0 < (↑s.length : Int))) (.node ((bt s 0) == 48)
    (.node (decide ((↑s.length : Int) > 1))
     (.leaf (Stop.done (SV.tuple [I64 0, I64 5])))
     (.leaf (Stop.at (loopOf Tryd.prog 21 0) 77 (slotsS 77 [(0, SV.str s), (4, I64 0), (5, I64 0), (6, SV.undef), (7, SV.undef)]) [])))
    (.leaf (Stop.at (loopOf Tryd.prog 21 0) 77 (slotsS 77 [(0, SV.str s), (4, I64 0), (5, I64 0), (6, SV.undef), (7, SV.undef)]) [])))))
theorem parse0 (s : List UInt8) : segR (Env.of Tryd.prog (sumOf [])) 1000 (fnOf Tryd.prog 21) .unit (keepS 77 [0,4,5,6,7]) (codeS Tryd.prog 21) parse0_p (startS Tryd.prog 21 [.str s]) [] = parse0_t s := by kernel_rfl
def parse1_p : Plan := .fork (.fork (.lit (.lit (.lit (.lit (.lit (.all)))))) (.lit (.lit (.lit (.lit (.fork (.all) (.all))))))) (.all)
noncomputable def parse1_t (s : List UInt8) (f i : Int) : Tree Stop :=
   .node (decide (i < (↑s.length : Int)))
 (.req (decide (0 ≤ i) && decide (i < (↑s.length : Int))) (.node (decide ((bt s i) < 48))
   (.leaf (Stop.done (SV.tuple [I64 0, I64 5])))
   (.req (decide (0 ≤ i) && decide (i < (↑s.length : Int))) (.node (decide ((bt s i) > 57))
     (.leaf (Stop.done (SV.tuple [I64 0, I64 5])))
     (.leaf (Stop.at (loopOf Tryd.prog 21 0) 77 (slotsS 77 [(0, SV.str s), (4, I64 f), (5, I64 (IntKind.i64.wrap (i + 1))), (6, SV.undef), (7, SV.undef)]) []))))))
 (.leaf (Stop.at (loopOf Tryd.prog 21 1) 77 (slotsS 77 [(0, SV.str s), (4, I64 f), (5, I64 i), (6, I64 0), (7, I64 f)]) []))
theorem parse1 (s : List UInt8) (f i : Int) : segR (Env.of Tryd.prog (sumOf [])) 1000 (fnOf Tryd.prog 21) .unit (keepS 77 [0,4,5,6,7]) (loopOf Tryd.prog 21 0) parse1_p (slotsS 77 [(0, .str s), (4, I64 f), (5, I64 i), (6, .undef), (7, .undef)]) [] = parse1_t s f i := by kernel_rfl
def parse2_p : Plan := .fork (.fork (.all) (.all)) (.fork (.all) (.fork (.all) (.all)))
noncomputable def parse2_t (s : List UInt8) (f j n i : Int) : Tree Stop :=
   .node (decide (i < (↑s.length : Int)))
 (.req (decide (0 ≤ i) && decide (i < (↑s.length : Int))) (.req (true) (.node (decide (n < IntKind.i64.wrap ((IntKind.i64.wrap (-9223372036854775808 + IntKind.i64.wrap (IntKind.u8.wrap ((bt s i) - 48)))).tdiv 10)))
    (.leaf (Stop.done (SV.tuple [I64 0, I64 3])))
    (.leaf (Stop.at (loopOf Tryd.prog 21 1) 77 (slotsS 77 [(0, SV.str s), (4, I64 f), (5, I64 j), (6, I64 (IntKind.i64.wrap (IntKind.i64.wrap (10 * n) - IntKind.i64.wrap (IntKind.u8.wrap ((bt s i) - 48))))), (7, I64 (IntKind.i64.wrap (i + 1)))]) [])))))
 (.node (f == 1)
  (.leaf (Stop.done (SV.tuple [I64 n, I64 0])))
  (.node (n == -9223372036854775808)
   (.leaf (Stop.done (SV.tuple [I64 0, I64 3])))
   (.leaf (Stop.done (SV.tuple [I64 (IntKind.i64.wrap (0 - n)), I64 0])))))
theorem parse2 (s : List UInt8) (f j n i : Int) : segR (Env.of Tryd.prog (sumOf [])) 1000 (fnOf Tryd.prog 21) .unit (keepS 77 [0,4,5,6,7]) (loopOf Tryd.prog 21 1) parse2_p (slotsS 77 [(0, .str s), (4, I64 f), (5, I64 j), (6, I64 n), (7, I64 i)]) [] = parse2_t s f j n i := by kernel_rfl
end Go.Proofs.YtkmohnciiincmaaDoor
set_option linter.unusedSimpArgs false
set_option linter.unusedVariables false
set_option maxRecDepth 100000
namespace Go.Proofs.YtkmohnciiincmaaDoor
open Go.Sx

theorem bt_get {s : List UInt8} {i : Int} (h0 : 0 ≤ i) (h : i < s.length) : ∃ b, s[i.toNat]? = some b ∧ bt s i = b.toNat := by
  have hl : i.toNat < s.length := by omega
  refine ⟨s[i.toNat], List.getElem?_eq_getElem hl, ?_⟩
  unfold bt
  rw [List.getD_eq_getElem?_getD, List.getElem?_eq_getElem hl]; rfl
theorem bt_drop {s : List UInt8} {i : Int} (h0 : 0 ≤ i) (h : i < s.length) : ∃ b, s.drop i.toNat = b :: s.drop (i + 1).toNat ∧ bt s i = b.toNat := by
  obtain ⟨b, h1, h2⟩ := bt_get h0 h
  have hl : i.toNat < s.length := by omega
  refine ⟨b, ?_, h2⟩
  rw [List.drop_eq_getElem_cons hl, show (i + 1).toNat = i.toNat + 1 by omega]
  rw [List.getElem?_eq_getElem hl] at h1
  injection h1 with h1
  rw [h1]

/-! ### Exclusive or -/

def isDig (b : UInt8) : Bool := decide (48 ≤ (b.toNat : Int)) && decide ((b.toNat : Int) ≤ 57)
def digs (l : List UInt8) : Bool := l.all isDig
def valF (n : Int) (l : List UInt8) : Int := l.foldl (fun n b => 10 * n + ((b.toNat : Int) - 48)) n
def val (l : List UInt8) : Int := valF 0 l

theorem isDig_iff {b : UInt8} : isDig b = true ↔ 48 ≤ (b.toNat : Int) ∧ (b.toNat : Int) ≤ 57 := by simp [isDig]
theorem valF_cons (n : Int) (b : UInt8) (l : List UInt8) : valF n (b :: l) = valF (10 * n + ((b.toNat : Int) - 48)) l := rfl
theorem valF_ge : ∀ (l : List UInt8) (n : Int), 0 ≤ n → digs l = true → n ≤ valF n l
  | [], n, _, _ => Int.le_refl n
  | b :: l, n, h, hd => by
    simp only [digs, List.all_cons, Bool.and_eq_true] at hd
    have := isDig_iff.1 hd.1
    rw [valF_cons]
    have := valF_ge l (10 * n + ((b.toNat : Int) - 48)) (by omega) hd.2
    omega

/-! ### The one way -/

theorem getBang {s : List UInt8} {p : Nat} {b : UInt8} (h : s[p]? = some b) : (ByteArray.mk (Array.mk s)).get! p = b := by
  show (Array.mk s)[p]! = b
  have hl := (List.getElem?_eq_some_iff.1 h).1
  rw [getElem!_pos _ _ (by simpa using hl)]
  simpa using (List.getElem?_eq_some_iff.1 h).2

theorem decode_lo {s : List UInt8} {p : Nat} {b : UInt8} (h : s[p]? = some b) (hb : b.toNat < 128) : Utf8.decode (ByteArray.mk (Array.mk s)) p = (b.toNat, 1) := by
  have e : ((ByteArray.mk (Array.mk s)).get! (p + 0)).toNat = b.toNat := by rw [Nat.add_zero, getBang h]
  unfold Utf8.decode
  simp only [e]
  rw [if_pos hb]
theorem decode_hi {s : List UInt8} {p : Nat} {b : UInt8} (h : s[p]? = some b) (hb : 128 ≤ b.toNat) : 128 ≤ (Utf8.decode (ByteArray.mk (Array.mk s)) p).1 := by
  have e : ((ByteArray.mk (Array.mk s)).get! (p + 0)).toNat = b.toNat := by rw [Nat.add_zero, getBang h]
  unfold Utf8.decode
  simp only [e]
  rw [if_neg (by omega)]
  have re : Utf8.runeError = 65533 := rfl
  repeat' split
  all_goals first
    | (rw [re]; omega)
    | (rename_i hc; simp only [Bool.and_eq_true, decide_eq_true_eq, ge_iff_le] at hc; dsimp only; omega)
    | (rename_i hc; dsimp only; omega)

theorem bt0 {b : UInt8} {l : List UInt8} : bt (b :: l) 0 = b.toNat := rfl
theorem head48 {b : UInt8} : (b.toNat : Int) = 48 ↔ b = 48 := ⟨fun h => UInt8.toNat_inj.1 (by have : (48 : UInt8).toNat = 48 := rfl; omega), fun h => by subst h; rfl⟩

def least : Int := -9223372036854775808
/-- The negated number of digits, or none. -/
def pAcc : Int → List UInt8 → Option Int
  | n, [] => some n
  | n, b :: l => if n < (least + ((b.toNat : Int) - 48)).tdiv 10 then none else pAcc (10 * n - ((b.toNat : Int) - 48)) l
theorem pAcc_eq : ∀ (l : List UInt8) (n : Int), n ≤ 0 → least ≤ n → digs l = true → pAcc n l = if least ≤ -(valF (-n) l) then some (-(valF (-n) l)) else none
  | [], n, h0, h1, _ => by
    have : -(valF (-n) []) = n := by show -(-n) = n; omega
    rw [this, if_pos h1]; rfl
  | b :: l, n, h0, h1, hd => by
    simp only [digs, List.all_cons, Bool.and_eq_true] at hd
    have hb := isDig_iff.1 hd.1
    unfold pAcc
    rw [valF_cons]
    have e : 10 * -n + ((b.toNat : Int) - 48) = -(10 * n - ((b.toNat : Int) - 48)) := by omega
    rw [e]
    have ht : (least + ((b.toNat : Int) - 48)).tdiv 10 = -((-(least + ((b.toNat : Int) - 48))) / 10) := by
      rw [show least + ((b.toNat : Int) - 48) = -(-(least + ((b.toNat : Int) - 48))) by omega, Int.neg_tdiv, Int.tdiv_eq_ediv_of_nonneg (by unfold least; omega)]
      simp
    rw [ht]
    unfold least at h1 ht ⊢
    split
    · rename_i hlt
      rw [if_neg]
      have := valF_ge l (-(10 * n - ((b.toNat : Int) - 48))) (by omega) hd.2
      omega
    · rename_i hlt
      exact pAcc_eq l _ (by omega) (by unfold least; omega) hd.2
/-- Behind the digits. -/
def pEnd (f : Int) (o : Option Int) : Int × Int := match o with
  | none => (0, 3)
  | some n => if f = 1 then (n, 0) else if n = least then (0, 3) else (-n, 0)
def pRes (f : Int) (d : List UInt8) : Int × Int := if digs d then pEnd f (pAcc 0 d) else (0, 5)
def from_ (s : List UInt8) : Int := if s.head? = some 45 then 1 else 0
def parseV (s : List UInt8) : Int × Int :=
  if s.drop (from_ s).toNat = [] ∨ ((s.drop (from_ s).toNat).head? = some 48 ∧ 1 < s.length) then (0, 5) else pRes (from_ s) (s.drop (from_ s).toNat)
def pS (r : Int × Int) : SV := .tuple [I64 r.1, I64 r.2]

theorem pAcc_range : ∀ (l : List UInt8) (n : Int), n ≤ 0 → least ≤ n → digs l = true → ∀ m, pAcc n l = some m → m ≤ 0 ∧ least ≤ m := by
  intro l n h0 h1 hd m h
  rw [pAcc_eq l n h0 h1 hd] at h
  split at h
  · injection h with h
    have := valF_ge l (-n) (by omega) hd
    omega
  · cases h

structure SA where
  n : Int
  i : Int
theorem parse2_loop (s : List UInt8) (hs : small s = true) (f j : Int) (r : Int × Int) : ∀ a : SA, (0 ≤ a.i ∧ a.i ≤ s.length ∧ a.n ≤ 0 ∧ least ≤ a.n ∧ digs (s.drop a.i.toNat) = true ∧ r = pEnd f (pAcc a.n (s.drop a.i.toNat))) →
    RunsR Tryd.prog (fnOf Tryd.prog 21) (pS r) (loopOf Tryd.prog 21 1) (slotsS 77 [(0, .str s), (4, I64 f), (5, I64 j), (6, I64 a.n), (7, I64 a.i)]) [] := by
  rw [small_iff] at hs
  refine runsR_of (hK (l := []) trivial) (n := 1000) (hint := .unit) rfl (fun a : SA => 0 ≤ a.i ∧ a.i ≤ s.length ∧ a.n ≤ 0 ∧ least ≤ a.n ∧ digs (s.drop a.i.toNat) = true ∧ r = pEnd f (pAcc a.n (s.drop a.i.toNat))) (fun a => ((s.length : Int) - a.i).toNat) (keepS 77 [0, 4, 5, 6, 7]) (fun _ => loopOf Tryd.prog 21 1) (fun a => slotsS 77 [(0, .str s), (4, I64 f), (5, I64 j), (6, I64 a.n), (7, I64 a.i)]) (fun _ => []) (fun _ => parse2_p) fun a ha => ?_
  obtain ⟨n, i⟩ := a
  obtain ⟨h0, hl, hn, hn2, hd, hr⟩ := ha
  dsimp only at h0 hl hn hn2 hd hr ⊢
  rw [parse2]
  unfold parse2_t
  simp only [Tree.holds, decide_eq_true_eq, decide_eq_false_iff_not, Bool.and_eq_true, beq_iff_eq, beq_eq_false_iff_ne]
  refine ⟨fun h => ?_, fun h => ?_⟩
  · obtain ⟨b, h1, h2⟩ := bt_drop h0 h
    rw [h1] at hd hr
    simp only [digs, List.all_cons, Bool.and_eq_true] at hd
    have hb := isDig_iff.1 hd.1
    have hu : IntKind.u8.wrap ((b.toNat : Int) - 48) = (b.toNat : Int) - 48 := u8_id (by omega) (by omega)
    unfold pAcc at hr
    rw [h2, hu, wrap64 (x := (b.toNat : Int) - 48) (by omega) (by omega), wrap64 (x := -9223372036854775808 + ((b.toNat : Int) - 48)) (by omega) (by omega)]
    have ht : (least + ((b.toNat : Int) - 48)).tdiv 10 = -((-(least + ((b.toNat : Int) - 48))) / 10) := by
      rw [show least + ((b.toNat : Int) - 48) = -(-(least + ((b.toNat : Int) - 48))) by omega, Int.neg_tdiv, Int.tdiv_eq_ediv_of_nonneg (by unfold least; omega)]
      simp
    have ht' : (-9223372036854775808 + ((b.toNat : Int) - 48)).tdiv 10 = -((9223372036854775808 - ((b.toNat : Int) - 48)) / 10) := by
      have e : (-9223372036854775808 + ((b.toNat : Int) - 48)) = least + ((b.toNat : Int) - 48) := rfl
      rw [e, ht]
      unfold least
      congr 2
      omega
    rw [ht', wrap64 (x := -((9223372036854775808 - ((b.toNat : Int) - 48)) / 10)) (by omega) (by omega)]
    have ht2 : (least + ((b.toNat : Int) - 48)).tdiv 10 = -((9223372036854775808 - ((b.toNat : Int) - 48)) / 10) := ht'
    rw [ht2] at hr
    refine ⟨⟨h0, h⟩, by decide, fun c => ?_, fun c => ⟨slotsS_len _ _, .inl ?_⟩⟩
    · rw [if_pos c] at hr
      rw [hr]; rfl
    · rw [if_neg c] at hr
      unfold least at hn2
      rw [wrap64 (x := 10 * n) (by omega) (by omega), wrap64 (by omega) (by omega), wrap64 (by omega) (by omega)]
      exact ⟨⟨10 * n - ((b.toNat : Int) - 48), i + 1⟩, ⟨by dsimp only; omega, by dsimp only; omega, by dsimp only; omega, by dsimp only; unfold least; omega, hd.2, hr⟩, by dsimp only; omega, by trivial, rfl, by trivial⟩
  · have : s.drop i.toNat = [] := List.drop_eq_nil_of_le (by omega)
    rw [this] at hr
    unfold least at hn2
    refine ⟨fun c => ?_, fun c => ⟨fun c2 => ?_, fun c2 => ?_⟩⟩
    · rw [hr]; subst c; rfl
    · rw [hr]; subst c2; simp only [pAcc, pEnd]; rw [if_neg c, show least = -9223372036854775808 from rfl, if_pos rfl]; rfl
    · rw [hr]; simp only [pAcc, pEnd]; rw [if_neg c, show least = -9223372036854775808 from rfl, if_neg c2, wrap64 (by omega) (by omega)]
      show SV.tuple [I64 (0 - n), I64 0] = SV.tuple [I64 (-n), I64 0]
      rw [Int.zero_sub]

theorem parse1_loop (s : List UInt8) (hs : small s = true) (f : Int) (hf : 0 ≤ f ∧ f ≤ s.length) (r : Int × Int) : ∀ i : Int, (f ≤ i ∧ i ≤ s.length ∧ (∀ p : Nat, f ≤ p → (p : Int) < i → ∀ b, s[p]? = some b → isDig b = true) ∧ r = pRes f (s.drop f.toNat)) →
    RunsR Tryd.prog (fnOf Tryd.prog 21) (pS r) (loopOf Tryd.prog 21 0) (slotsS 77 [(0, .str s), (4, I64 f), (5, I64 i), (6, .undef), (7, .undef)]) [] := by
  have hs' := small_iff.1 hs
  refine runsR_of (hK (l := []) trivial) (n := 1000) (hint := .unit) rfl (fun i : Int => f ≤ i ∧ i ≤ s.length ∧ (∀ p : Nat, f ≤ p → (p : Int) < i → ∀ b, s[p]? = some b → isDig b = true) ∧ r = pRes f (s.drop f.toNat)) (fun i => ((s.length : Int) - i).toNat) (keepS 77 [0, 4, 5, 6, 7]) (fun _ => loopOf Tryd.prog 21 0) (fun i => slotsS 77 [(0, .str s), (4, I64 f), (5, I64 i), (6, .undef), (7, .undef)]) (fun _ => []) (fun _ => parse1_p) fun i hi => ?_
  obtain ⟨h0, hl, hp, hr⟩ := hi
  rw [parse1]
  unfold parse1_t
  simp only [Tree.holds, decide_eq_true_eq, decide_eq_false_iff_not, Bool.and_eq_true]
  have inDigs : digs (s.drop f.toNat) = true ↔ ∀ p : Nat, f ≤ p → ∀ b, s[p]? = some b → isDig b = true := by
    simp only [digs, List.all_eq_true]
    constructor
    · intro h p hp b hb
      refine h b (List.mem_of_getElem? (i := p - f.toNat) ?_)
      rw [List.getElem?_drop, show f.toNat + (p - f.toNat) = p by omega]; exact hb
    · intro h b hb
      obtain ⟨k, hk⟩ := List.getElem?_of_mem hb
      rw [List.getElem?_drop] at hk
      exact h _ (by omega) b hk
  refine ⟨fun h => ?_, fun h => ⟨slotsS_len _ _, .inr ?_⟩⟩
  · obtain ⟨b, h1, h2⟩ := bt_get (s := s) (i := i) (by omega) h
    have bad : isDig b = false → SV.tuple [I64 0, I64 5] = pS r := fun hb => by
      rw [hr]; unfold pRes
      rw [if_neg]
      · rfl
      · intro hd
        have := inDigs.1 hd i.toNat (by omega) b h1
        rw [hb] at this; cases this
    rw [h2]
    refine ⟨⟨by omega, h⟩, fun c1 => bad ?_, fun c1 => ⟨⟨by omega, h⟩, fun c2 => bad ?_, fun c2 => ⟨slotsS_len _ _, .inl ?_⟩⟩⟩
    · rw [← Bool.not_eq_true, isDig_iff]; omega
    · rw [← Bool.not_eq_true, isDig_iff]; omega
    · rw [wrap64 (by omega) (by omega)]
      refine ⟨i + 1, ⟨by omega, by omega, fun p hp1 hp2 b' hb' => ?_, hr⟩, by omega, by trivial, rfl, by trivial⟩
      by_cases hpi : (p : Int) < i
      · exact hp p hp1 hpi b' hb'
      · have : p = i.toNat := by omega
        subst this
        rw [h1] at hb'; injection hb' with hb'; subst hb'
        rw [isDig_iff]; omega
  · have hd : digs (s.drop f.toNat) = true := inDigs.2 fun p hp1 b hb => hp p hp1 (by have := (List.getElem?_eq_some_iff.1 hb).1; omega) b hb
    unfold pRes at hr
    rw [if_pos hd] at hr
    exact parse2_loop s hs f i r ⟨0, f⟩ ⟨hf.1, hf.2, by dsimp only; omega, by dsimp only; unfold least; omega, hd, hr⟩

theorem s_parse (s : List UInt8) (hs : small s = true) : SCall Tryd.prog 21 [.str s] (pS (parseV s)) := by
  refine scallR_loops rfl rfl (by kernel_rfl) (runsR_seg (hK (l := []) trivial) (n := 1000) (hint := .unit) (keep := keepS 77 [0, 4, 5, 6, 7]) (p := parse0_p) (boxes := []) rfl ?_)
  have e := parse0 s
  unfold startS codeS at e
  erw [e]
  unfold parse0_t
  have go : ∀ f : Int, from_ s = f → (f = 0 ∨ f = 1) → f < s.length → ¬ ((s.drop f.toNat).head? = some 48 ∧ 1 < s.length) → RunsR Tryd.prog (fnOf Tryd.prog 21) (pS (parseV s)) (loopOf Tryd.prog 21 0) (slotsS 77 [(0, .str s), (4, I64 f), (5, I64 f), (6, .undef), (7, .undef)]) [] := by
    intro f hf h01 hlt hh
    refine parse1_loop s hs f (by omega) _ f ⟨Int.le_refl _, by omega, fun p h1 h2 => by omega, ?_⟩
    unfold parseV
    rw [hf, if_neg]
    rintro (h | h)
    · have := congrArg List.length h
      rw [List.length_drop] at this
      simp at this; omega
    · exact hh h
  have bad : ∀ f : Int, from_ s = f → (s.drop f.toNat = [] ∨ ((s.drop f.toNat).head? = some 48 ∧ 1 < s.length)) → SV.tuple [I64 0, I64 5] = pS (parseV s) := by
    intro f hf h
    unfold parseV
    rw [hf, if_pos h]; rfl
  have hh : ∀ i : Int, 0 ≤ i → i < s.length → ((s.drop i.toNat).head? = some 48 ↔ bt s i = 48) := by
    intro i h0 h
    obtain ⟨b, h1, h2⟩ := bt_drop h0 h
    rw [h1, h2, head48]
    simp
  have h45 : 0 < s.length → (s.head? = some 45 ↔ bt s 0 = 45) := by
    intro h
    obtain ⟨b, h1, h2⟩ := bt_drop (s := s) (i := 0) (by omega) (by omega)
    have h1 : s = b :: s.drop 1 := h1
    rw [h2]
    rw [h1]
    simp only [List.head?_cons, Option.some.injEq]
    have e45 : (45 : UInt8).toNat = 45 := rfl
    exact ⟨fun h => by rw [h]; rfl, fun h => UInt8.toNat_inj.1 (by omega)⟩
  simp only [Tree.holds, decide_eq_true_eq, decide_eq_false_iff_not, Bool.and_eq_true, beq_iff_eq, beq_eq_false_iff_ne, true_and]
  refine ⟨fun hp => ⟨by omega, fun c => ?_, fun c => ?_⟩, fun hp => ?_⟩
  · have hf : from_ s = 1 := by unfold from_; rw [if_pos ((h45 (by omega)).2 c)]
    refine ⟨fun h1 => bad 1 hf (.inl (List.drop_eq_nil_of_le (by omega))), fun h1 => ⟨by omega, fun h2 => ⟨fun h3 => ?_, fun h3 => by omega⟩, fun h2 => ⟨slotsS_len _ _, ?_⟩⟩⟩
    · exact bad 1 hf (.inr ⟨(hh 1 (by omega) (by omega)).2 h2, by omega⟩)
    · exact go 1 hf (.inr rfl) (by omega) (fun h => h2 ((hh 1 (by omega) (by omega)).1 h.1))
  · have hf : from_ s = 0 := by unfold from_; rw [if_neg (fun h => c ((h45 (by omega)).1 h))]
    refine ⟨fun h1 => by omega, fun h1 => ⟨by omega, fun h2 => ⟨fun h3 => ?_, fun h3 => ⟨slotsS_len _ _, ?_⟩⟩, fun h2 => ⟨slotsS_len _ _, ?_⟩⟩⟩
    · exact bad 0 hf (.inr ⟨(hh 0 (by omega) (by omega)).2 h2, by omega⟩)
    · exact go 0 hf (.inl rfl) (by omega) (fun h => by omega)
    · exact go 0 hf (.inl rfl) (by omega) (fun h => h2 ((hh 0 (by omega) (by omega)).1 h.1))
  · have hnil : s = [] := List.eq_nil_of_length_eq_zero (by omega)
    subst hnil
    exact ⟨fun _ => rfl, fun h => absurd rfl h⟩

/-! ### Both readings -/

theorem val_pos {b : UInt8} {l : List UInt8} (hb : isDig b = true) (h48 : b ≠ 48) (hd : digs l = true) : 1 ≤ val (b :: l) := by
  have h1 := isDig_iff.1 hb
  have h2 : (b.toNat : Int) ≠ 48 := fun h => h48 (head48.1 h)
  unfold val
  rw [valF_cons]
  have := valF_ge l (10 * 0 + ((b.toNat : Int) - 48)) (by omega) hd
  omega

end Go.Proofs.YtkmohnciiincmaaDoor
set_option linter.unusedSimpArgs false
set_option linter.unusedVariables false
set_option maxRecDepth 100000
namespace Go.Proofs.YtkmohnciiincmaaDoor
open Go.Sx

theorem nu_loop (s : List UInt8) (v : Bool) : ∀ p : Nat, (p ≤ s.length ∧ v = digs (s.drop p)) → RunsR Tryd.prog (fnOf Tryd.prog 14) (.bool v) (loopOf Tryd.prog 14 0) (slotsS 30 [(20, .ptr 0 0)]) [some (.iter s p)] := by
  refine runsR_of (hK (l := [fTrim]) ⟨o_trim, trivial⟩) (n := 1000) (hint := .unit) rfl (fun p : Nat => p ≤ s.length ∧ v = digs (s.drop p)) (fun p => s.length - p) (keepS 30 [20]) (fun _ => loopOf Tryd.prog 14 0) (fun _ => slotsS 30 [(20, .ptr 0 0)]) (fun p => [some (.iter s p)]) (fun _ => nu1_p) fun p hp => ?_
  obtain ⟨hp, ho⟩ := hp
  rw [nu1]
  unfold nu1_t
  simp only [Tree.holds, decide_eq_true_eq, decide_eq_false_iff_not]
  refine ⟨fun h => ?_, fun h => ?_⟩
  · have hb : s[p]? = some s[p] := List.getElem?_eq_getElem h
    generalize s[p] = b at hb
    have hdrop : s.drop p = b :: s.drop (p + 1) := by
      rw [List.drop_eq_getElem_cons h]
      rw [List.getElem?_eq_getElem h] at hb
      injection hb with hb; rw [hb]
    have hc : digs (s.drop p) = (isDig b && digs (s.drop (p + 1))) := by rw [hdrop]; rfl
    rw [hc] at ho
    have hb8 := b.toNat_lt
    by_cases h128 : b.toNat < 128
    · have er : rn s p = b.toNat := by unfold rn; rw [decode_lo hb h128]
      rw [er, decode_lo hb h128]
      refine ⟨fun c1 => ?_, fun c1 => ⟨fun c2 => ?_, fun c2 => ⟨slotsS_len _ _, .inl ?_⟩⟩⟩
      · have : isDig b = false := by rcases Bool.eq_false_or_eq_true (isDig b) with e | e
                                     · rw [isDig_iff] at e; omega
                                     · exact e
        rw [ho, this]; rfl
      · have : isDig b = false := by rcases Bool.eq_false_or_eq_true (isDig b) with e | e
                                     · rw [isDig_iff] at e; omega
                                     · exact e
        rw [ho, this]; rfl
      · have : isDig b = true := by rw [isDig_iff]; omega
        exact ⟨p + 1, ⟨by omega, by rw [ho, this]; rfl⟩, by omega, by trivial, by first | trivial | rfl, by first | trivial | rfl⟩
    · have er : 128 ≤ rn s p := by
        have := decode_hi hb (by omega)
        unfold rn; omega
      have : isDig b = false := by rcases Bool.eq_false_or_eq_true (isDig b) with e | e
                                   · rw [isDig_iff] at e; omega
                                   · exact e
      refine ⟨fun c1 => by omega, fun c1 => ⟨fun c2 => ?_, fun c2 => by omega⟩⟩
      rw [ho, this]; rfl
  · have : s.drop p = [] := List.drop_eq_nil_of_le (by omega)
    rw [this] at ho
    rw [ho]; rfl

/-- Is a text a number, of any size? -/
def numB (s : List UInt8) : Bool := !(tp s == []) && ((!(bt (tp s) 0 == 48) || s == [48]) && digs (tp s))
theorem s_number (s : List UInt8) : SCall Tryd.prog 14 [.str s] (.bool (numB s)) := by
  refine scallR_loops rfl rfl (by kernel_rfl) (runsR_seg (hK (l := [fTrim]) ⟨o_trim, trivial⟩) (n := 1000) (hint := .unit) (keep := keepS 30 [20]) (p := nu0_p) (boxes := []) rfl ?_)
  have e := nu0 s
  unfold startS codeS at e
  erw [e]
  unfold nu0_t
  have hr := nu_loop (tp s) (digs (tp s)) 0 ⟨Nat.zero_le _, rfl⟩
  simp only [Tree.holds, decide_eq_true_eq]
  refine ⟨fun h => ?_, fun h => ⟨?_, fun h2 => ⟨fun h3 => ?_, fun h3 => ⟨slotsS_len _ _, ?_⟩⟩, fun h2 => ⟨slotsS_len _ _, ?_⟩⟩⟩
  · unfold numB; rw [h]; rfl
  · have : tp s ≠ [] := by simpa using h
    have : (tp s).length ≠ 0 := fun c => this (List.eq_nil_of_length_eq_zero c)
    omega
  · have h3 : (s == [48]) = false := by simpa using h3
    unfold numB; rw [h, h2, h3]; rfl
  · have h3 : (s == [48]) = true := by simpa using h3
    have : numB s = digs (tp s) := by unfold numB; rw [h, h2, h3]; rfl
    rw [this]; exact hr
  · have : numB s = digs (tp s) := by unfold numB; rw [h, h2]; rfl
    rw [this]; exact hr
def fNumber : Fact := ⟨14, fun args => match args with
  | [.str s] => some (.leaf (.bool (numB s)))
  | _ => none⟩
theorem o_number : fNumber.ok Tryd.prog := fun args t ht => by
  simp only [fNumber] at ht
  split at ht
  · injection ht with ht; subst ht; exact s_number _
  · cases ht
end Go.Proofs.YtkmohnciiincmaaDoor
set_option linter.unusedSimpArgs false
set_option linter.unusedVariables false
set_option maxRecDepth 100000
namespace Go.Proofs.YtkmohnciiincmaaDoor
open Go.Sx

/-- The end: a value with its sign, or none. -/
def fin (g : Bool) (v : Int) : Int × Int :=
  if v > 9223372036854775808 then (0, 3) else if v = 9223372036854775808 then (if g then (-9223372036854775808, 0) else (0, 3)) else if g then (-v, 0) else (v, 0)
def leadB (g : Bool) (d : List UInt8) (i : Int) : Bool := decide (i = 0) && ((bt d 0 == 48) && (g || decide (1 < (d.length : Int))))
def npR (g : Bool) (d : List UInt8) (ok big : Bool) (u i : Int) : Int × Int :=
  if ok = true ∧ digs (d.drop i.toNat) = true ∧ leadB g d i = false then (if big then (0, 3) else fin g (valF u (d.drop i.toNat))) else (0, 5)

theorem i64_def (x : Int) : IntKind.i64.wrap x = if x % 18446744073709551616 ≥ 9223372036854775808 then x % 18446744073709551616 - 18446744073709551616 else x % 18446744073709551616 := by
  have h3 : IntKind.wrap .i64 x = if true && decide (x % 18446744073709551616 ≥ 9223372036854775808) then x % 18446744073709551616 - 18446744073709551616 else x % 18446744073709551616 := rfl
  rw [h3]; simp
theorem wneg {u : Int} (h0 : 0 ≤ u) (h1 : u ≤ 9223372036854775808) : IntKind.i64.wrap (IntKind.u64.wrap (0 - u)) = -u := by
  rw [u64_def, i64_def]
  split <;> omega

structure NP where
  big : Bool
  u : Int
  i : Int
def NP.inv (g : Bool) (d : List UInt8) (ok : Bool) (r : Int × Int) (a : NP) : Prop := 0 ≤ a.i ∧ a.i ≤ d.length ∧ 0 ≤ a.u ∧ a.u < 18446744073709551616 ∧ r = npR g d ok a.big a.u a.i

theorem np_loop (g : Bool) (d : List UInt8) (hs : small d = true) (ok : Bool) (r : Int × Int) : ∀ a : NP, a.inv g d ok r → RunsR Tryd.prog (fnOf Tryd.prog 15) (pS r) (loopOf Tryd.prog 15 0) (slotsS 99 [(4, .bool g), (5, .str d), (6, .bool ok), (7, .bool a.big), (8, .int .u64 a.u), (9, I64 a.i)]) [] := by
  refine runsR_of (hK (l := []) trivial) (n := 1000) (hint := .unit) rfl (fun a : NP => a.inv g d ok r) (fun a => (d.length - a.i).toNat) (keepS 99 [4, 5, 6, 7, 8, 9]) (fun _ => loopOf Tryd.prog 15 0) (fun a => slotsS 99 [(4, .bool g), (5, .str d), (6, .bool ok), (7, .bool a.big), (8, .int .u64 a.u), (9, I64 a.i)]) (fun _ => []) (fun _ => np1_p) fun a ha => ?_
  have hl := small_iff.1 hs
  obtain ⟨big, u, i⟩ := a
  obtain ⟨h0, h1, hu0, hu1, hr⟩ := ha
  dsimp only at h0 h1 hu0 hu1 hr ⊢
  rw [np1]
  unfold np1_t
  by_cases hi : i < d.length
  · obtain ⟨b, hb, hbt⟩ := bt_drop h0 hi
    have hb8 := b.toNat_lt
    have hc : digs (d.drop i.toNat) = (isDig b && digs (d.drop (i + 1).toNat)) := by rw [hb]; rfl
    have hv : valF u (d.drop i.toNat) = valF (10 * u + ((b.toNat : Int) - 48)) (d.drop (i + 1).toNat) := by rw [hb]; rfl
    have hl1 : leadB g d (i + 1) = false := by unfold leadB; rw [decide_eq_false (by omega)]; rfl
    have hw8 : isDig b = true → IntKind.u8.wrap ((b.toNat : Int) - 48) = (b.toNat : Int) - 48 := fun h => by rw [isDig_iff] at h; exact u8_id (by omega) (by omega)
    -- the common end of the three ways to the last test
    have go : isDig b = true → leadB g d i = false → (Tree.node big
        (.leaf (Stop.at (loopOf Tryd.prog 15 0) 99 (slotsS 99 [(4, SV.bool g), (5, SV.str d), (6, SV.bool ok), (7, SV.bool true), (8, SV.int IntKind.u64 u), (9, I64 (IntKind.i64.wrap (i + 1)))]) []))
        (.req (true) (.node (decide (u > IntKind.u64.wrap ((IntKind.u64.wrap (18446744073709551615 - IntKind.u64.wrap (IntKind.u8.wrap ((bt d i) - 48)))).tdiv 10)))
          (.leaf (Stop.at (loopOf Tryd.prog 15 0) 99 (slotsS 99 [(4, SV.bool g), (5, SV.str d), (6, SV.bool ok), (7, SV.bool true), (8, SV.int IntKind.u64 u), (9, I64 (IntKind.i64.wrap (i + 1)))]) []))
          (.leaf (Stop.at (loopOf Tryd.prog 15 0) 99 (slotsS 99 [(4, SV.bool g), (5, SV.str d), (6, SV.bool ok), (7, SV.bool big), (8, SV.int IntKind.u64 (IntKind.u64.wrap (IntKind.u64.wrap (10 * u) + IntKind.u64.wrap (IntKind.u8.wrap ((bt d i) - 48))))), (9, I64 (IntKind.i64.wrap (i + 1)))]) []))))).holds
        (fun o => match o with
          | .done v' => v' = pS r
          | .at items' size slots' boxes' => slots'.length = size ∧ ((∃ s' : NP, s'.inv g d ok r ∧ (d.length - s'.i).toNat < (d.length - i).toNat ∧ items' = loopOf Tryd.prog 15 0 ∧ slots' = slotsS 99 [(4, .bool g), (5, .str d), (6, .bool ok), (7, .bool s'.big), (8, .int .u64 s'.u), (9, I64 s'.i)] ∧ boxes' = []) ∨ RunsR Tryd.prog (fnOf Tryd.prog 15) (pS r) items' slots' boxes')) := by
      intro hdig hlead
      have hd := isDig_iff.1 hdig
      rw [hbt, hw8 hdig, wrap64 (by omega) (by omega)]
      unfold npR at hr
      rw [hc, hdig, hlead, hv] at hr
      refine ⟨fun hbig => ⟨slotsS_len _ _, .inl ⟨⟨true, u, i + 1⟩, ⟨by dsimp only; omega, by dsimp only; omega, hu0, hu1, ?_⟩, by dsimp only; omega, rfl, rfl, rfl⟩⟩, fun hbig => ⟨rfl, fun c => ⟨slotsS_len _ _, .inl ⟨⟨true, u, i + 1⟩, ⟨by dsimp only; omega, by dsimp only; omega, hu0, hu1, ?_⟩, by dsimp only; omega, rfl, rfl, rfl⟩⟩, fun c => ⟨slotsS_len _ _, .inl ⟨⟨big, 10 * u + ((b.toNat : Int) - 48), i + 1⟩, ⟨by dsimp only; omega, by dsimp only; omega, ?_, ?_, ?_⟩, by dsimp only; omega, rfl, ?_, rfl⟩⟩⟩⟩
      · dsimp only
        unfold npR
        rw [hl1, hr, hbig]
        simp
      · have c := of_decide_eq_true c
        rw [u64_id (n := (b.toNat : Int) - 48) (by omega) (by omega), u64_id (n := 18446744073709551615 - ((b.toNat : Int) - 48)) (by omega) (by omega)] at c
        rw [tenth (by omega) (by omega)] at c
        dsimp only
        unfold npR
        rw [hl1, hr, hbig]
        by_cases hdd : digs (d.drop (i + 1).toNat) = true
        · have := valF_ge (d.drop (i + 1).toNat) (10 * u + ((b.toNat : Int) - 48)) (by omega) hdd
          have e : fin g (valF (10 * u + ((b.toNat : Int) - 48)) (d.drop (i + 1).toNat)) = (0, 3) := by
            unfold fin; rw [if_pos (by omega)]
          simp [e]
        · have hdd : digs (d.drop (i + 1).toNat) = false := by simpa using hdd
          simp [hdd]
      · dsimp only; omega
      · have c := of_decide_eq_false c
        rw [u64_id (n := (b.toNat : Int) - 48) (by omega) (by omega), u64_id (n := 18446744073709551615 - ((b.toNat : Int) - 48)) (by omega) (by omega)] at c
        rw [tenth (by omega) (by omega)] at c
        dsimp only; omega
      · dsimp only
        unfold npR
        rw [hl1, hr]
        simp
      · have c := of_decide_eq_false c
        rw [u64_id (n := (b.toNat : Int) - 48) (by omega) (by omega), u64_id (n := 18446744073709551615 - ((b.toNat : Int) - 48)) (by omega) (by omega)] at c
        rw [tenth (by omega) (by omega)] at c
        rw [u64_id (n := (b.toNat : Int) - 48) (by omega) (by omega), u64_id (n := 10 * u) (by omega) (by omega), u64_id (by omega) (by omega)]
    have nd : isDig b = false → r = (0, 5) := fun h => by rw [hr]; unfold npR; rw [hc, h]; simp
    have ld : leadB g d i = true → r = (0, 5) := fun h => by rw [hr]; unfold npR; rw [h]; simp
    have ndig : ∀ x : Bool, (x = true → isDig b = false) → isDig b = true → x = false := fun x h1 h2 => by
      cases x with
      | false => rfl
      | true => rw [h1 rfl] at h2; cases h2
    refine ⟨fun _ => ⟨by simp; omega, fun c => ?_, fun c => ⟨fun c2 => ?_, fun c2 => ?_⟩⟩, fun c => absurd hi (of_decide_eq_false c)⟩
    · have c := of_decide_eq_true c
      rw [nd (by rcases Bool.eq_false_or_eq_true (isDig b) with e | e
                 · rw [isDig_iff] at e; omega
                 · exact e)]; rfl
    · have c2 := of_decide_eq_true c2
      rw [nd (by rcases Bool.eq_false_or_eq_true (isDig b) with e | e
                 · rw [isDig_iff] at e; omega
                 · exact e)]; rfl
    · have c := of_decide_eq_false c
      have c2 := of_decide_eq_false c2
      have hdig : isDig b = true := by rw [isDig_iff]; omega
      refine ⟨fun c3 => ⟨fun c4 => ⟨fun c5 => ?_, fun c5 => ⟨fun c6 => ?_, fun c6 => ?_⟩⟩, fun c4 => ?_⟩, fun c3 => ?_⟩
      · have c4 : i = 0 := by simpa using c4
        subst c4
        rw [ld (by unfold leadB; rw [c3, c5]; rfl)]; rfl
      · have c4 : i = 0 := by simpa using c4
        subst c4
        have c6 := of_decide_eq_true c6
        rw [ld (by unfold leadB; rw [c3, decide_eq_true c6]; simp)]; rfl
      · have c6 := of_decide_eq_false c6
        refine go hdig ?_
        have e1 : decide (1 < (d.length : Int)) = false := decide_eq_false (by omega)
        unfold leadB; rw [c5, e1]; simp
      · refine go hdig ?_
        unfold leadB; rw [decide_eq_false (by simpa using c4)]; rfl
      · refine go hdig ?_
        unfold leadB
        by_cases e : i = 0
        · subst e; rw [c3]; simp
        · rw [decide_eq_false e]; rfl
  · have hn : d.drop i.toNat = [] := List.drop_eq_nil_of_le (by omega)
    have hlead : ok = true → leadB g d i = false := fun _ => by
      unfold leadB
      by_cases e : i = 0
      · have : d = [] := List.eq_nil_of_length_eq_zero (by omega)
        rw [this]; simp; intro _ hh; exact absurd hh (by decide)
      · rw [decide_eq_false e]; rfl
    refine ⟨fun c => absurd (of_decide_eq_true c) hi, fun _ => ⟨fun c => ?_, fun c => ?_⟩⟩
    · have c : ok = false := by simpa using c
      rw [hr]; unfold npR; rw [c]; rfl
    · have c : ok = true := by simpa using c
      have hr : r = if big then (0, 3) else fin g u := by
        rw [hr]; unfold npR; rw [hn, hlead c, c]; simp [digs, valF]
      refine ⟨fun c2 => by rw [hr, c2]; rfl, fun c2 => ?_⟩
      rw [c2] at hr
      have hr : r = fin g u := hr
      unfold fin at hr
      refine ⟨fun c3 => ?_, fun c3 => ?_⟩
      · rw [if_pos (of_decide_eq_true c3)] at hr; rw [hr]; rfl
      · have c3 := of_decide_eq_false c3
        rw [if_neg c3] at hr
        refine ⟨fun c4 => ?_, fun c4 => ?_⟩
        · have c4 : u = 9223372036854775808 := by simpa using c4
          rw [if_pos c4] at hr
          refine ⟨fun c5 => ?_, fun c5 => ⟨fun c6 => ?_, fun c6 => ?_⟩⟩
          · have c5 : g = false := by simpa using c5
            rw [c5] at hr; rw [hr]; rfl
          · rw [c6] at hr
            rw [wneg hu0 (by omega), c4, hr]; rfl
          · rw [c6] at c5; cases c5
        · have c4 : ¬ u = 9223372036854775808 := by simpa using c4
          rw [if_neg c4] at hr
          refine ⟨fun c6 => ?_, fun c6 => ?_⟩
          · rw [c6] at hr
            rw [wneg hu0 (by omega), hr]; rfl
          · rw [c6] at hr
            rw [wrap64 (by omega) (by omega), hr]; rfl
end Go.Proofs.YtkmohnciiincmaaDoor
set_option linter.unusedSimpArgs false
set_option linter.unusedVariables false
set_option maxRecDepth 100000
namespace Go.Proofs.YtkmohnciiincmaaDoor
open Go.Sx

/-- The first digit (the last of the list) is none, but for 0. -/
theorem rd_last : ∀ (k : Nat) (u : Int), 0 < u → u < 10 ^ k → ∃ d, (rd k u).getLast? = some d ∧ d ≠ 48
  | 0, u, h0, hk => by simp at hk; omega
  | k + 1, u, h0, hk => by
    unfold rd
    rw [Int.pow_succ] at hk
    split
    · rename_i h
      obtain ⟨d, h1, h2⟩ := rd_last k (u / 10) (by omega) (by omega)
      refine ⟨d, ?_, h2⟩
      rw [List.getLast?_cons, h1]; rfl
    · exact ⟨48 + u % 10, rfl, by omega⟩

theorem toB_toNat {d : Int} (h : 48 ≤ d ∧ d ≤ 57) : ((UInt8.ofNat d.toNat).toNat : Int) = d := by
  rw [UInt8.toNat_ofNat']; omega
theorem digs_toB {l : List Int} (h : ∀ d ∈ l, 48 ≤ d ∧ d ≤ 57) : digs (toB l) = true := by
  simp only [digs, toB, List.all_eq_true]
  intro b hb
  obtain ⟨d, hd, rfl⟩ := List.mem_map.1 hb
  rw [isDig_iff, toB_toNat (h d hd)]
  exact h d hd
theorem val_toB : ∀ {l : List Int}, (∀ d ∈ l, 48 ≤ d ∧ d ≤ 57) → val (toB l.reverse) = dv l
  | [], _ => rfl
  | d :: l, h => by
    have ih := val_toB (l := l) fun x hx => h x (List.mem_cons_of_mem _ hx)
    have e : toB (d :: l).reverse = toB l.reverse ++ [UInt8.ofNat d.toNat] := by simp [toB]
    rw [e]
    unfold val valF at ih ⊢
    rw [List.foldl_append, ih]
    simp only [List.foldl_cons, List.foldl_nil]
    rw [toB_toNat (h d List.mem_cons_self), dv]
    omega

theorem size_pos {n : Int} (h0 : 0 ≤ n) (h1 : n ≤ 9223372036854775807) : size n = n := by
  unfold size
  rw [if_neg (by omega), u64_id h0 (by omega)]
theorem fmt_pos {n : Int} (h0 : 0 ≤ n) (h1 : n ≤ 9223372036854775807) : fmt n = toB (rd 20 n).reverse := by
  unfold fmt backs
  rw [size_pos h0 h1, if_neg (by omega), List.append_nil]
theorem p20 : (10 : Int) ^ 20 = 100000000000000000000 := by decide
theorem dv_nonneg : ∀ (l : List Int), (∀ d ∈ l, 48 ≤ d ∧ d ≤ 57) → 0 ≤ dv l
  | [], _ => Int.le_refl 0
  | d :: r, h => by
    have := dv_nonneg r fun x hx => h x (List.mem_cons_of_mem _ hx)
    have := h d List.mem_cons_self
    simp only [dv]; omega
theorem dv_big : ∀ (l : List Int), l ≠ [] → (∀ d ∈ l, 48 ≤ d ∧ d ≤ 57) → l.getLast? ≠ some 48 → (10 : Int) ^ (l.length - 1) ≤ dv l
  | [], h, _, _ => absurd rfl h
  | [d], _, h, hl => by
    have := h d List.mem_cons_self
    have : d ≠ 48 := fun e => hl (by rw [e]; rfl)
    simp only [dv, List.length_singleton, Nat.sub_self, Int.pow_zero]; omega
  | d :: e :: r, _, h, hl => by
    have ih := dv_big (e :: r) (by simp) (fun x hx => h x (List.mem_cons_of_mem _ hx)) (by rw [List.getLast?_cons_cons] at hl; exact hl)
    have := h d List.mem_cons_self
    have hp : (10 : Int) ^ ((d :: e :: r).length - 1) = 10 ^ ((e :: r).length - 1) * 10 := by
      rw [← Int.pow_succ]; rfl
    rw [hp, dv]; omega
theorem rd_dv : ∀ (k : Nat) (l : List Int), l ≠ [] → (∀ d ∈ l, 48 ≤ d ∧ d ≤ 57) → l.length ≤ k → (l.length = 1 ∨ l.getLast? ≠ some 48) → rd k (dv l) = l
  | 0, l, h, _, hk, _ => absurd (List.eq_nil_of_length_eq_zero (by omega)) h
  | k + 1, [], h, _, _, _ => absurd rfl h
  | k + 1, [d], _, h, _, _ => by
    have := h d List.mem_cons_self
    have hdv : dv [d] = (d - 48) + 10 * 0 := rfl
    rw [hdv]
    unfold rd
    rw [if_neg (by omega), show 48 + (d - 48 + 10 * 0) % 10 = d by omega]
  | k + 1, d :: e :: r, _, h, hk, hl => by
    have hd := h d List.mem_cons_self
    have hl : (e :: r).getLast? ≠ some 48 := by
      rcases hl with hl | hl
      · simp at hl
      · rw [List.getLast?_cons_cons] at hl; exact hl
    have hr : ∀ d ∈ e :: r, 48 ≤ d ∧ d ≤ 57 := fun x hx => h x (List.mem_cons_of_mem _ hx)
    have hb := dv_big (e :: r) (by simp) hr hl
    have hp : (0 : Int) < 10 ^ ((e :: r).length - 1) := Int.pow_pos (by decide)
    have ih := rd_dv k (e :: r) (by simp) hr (by simp only [List.length_cons] at hk ⊢; omega) (.inr hl)
    have hdv : dv (d :: e :: r) = (d - 48) + 10 * dv (e :: r) := rfl
    generalize dv (e :: r) = v at *
    rw [hdv]
    unfold rd
    rw [show (d - 48 + 10 * v) / 10 = v by omega, show 48 + (d - 48 + 10 * v) % 10 = d by omega, if_pos (by omega), ih]

theorem p19 : (10 : Int) ^ 19 = 10000000000000000000 := by decide
/-! ### Canonical decimals -/

def lead0 (s : List UInt8) : Bool := (s.head? == some 48) && decide (1 < s.length)
theorem canon {s : List UInt8} (hne : s ≠ []) (hl0 : lead0 s = false) (hd : digs s = true) (hv : val s ≤ 9223372036854775808) : s = toB (rd 20 (val s)).reverse ∧ 0 ≤ val s := by
  have back : toB ((s.map fun b => (b.toNat : Int))) = s := by
    unfold toB
    rw [List.map_map]
    conv => rhs; rw [← List.map_id s]
    refine List.map_congr_left fun b _ => ?_
    simp
  have hl : ∀ d ∈ (s.map fun b => (b.toNat : Int)).reverse, 48 ≤ d ∧ d ≤ 57 := by
    intro d hd'
    obtain ⟨b, hb, rfl⟩ := List.mem_map.1 (List.mem_reverse.1 hd')
    simp only [digs, List.all_eq_true] at hd
    exact isDig_iff.1 (hd b hb)
  generalize hL : (s.map fun b => (b.toNat : Int)).reverse = l at *
  have hs : s = toB l.reverse := by rw [← hL, List.reverse_reverse, back]
  have hval : val s = dv l := by rw [hs, val_toB hl]
  have hlen : l.length = s.length := by rw [← hL]; simp
  have hne' : l ≠ [] := fun h => hne (List.eq_nil_of_length_eq_zero (by rw [← hlen, h]; rfl))
  have hlast : l.length = 1 ∨ l.getLast? ≠ some 48 := by
    by_cases h1 : 1 < s.length
    · right
      intro hc
      rw [← hL, List.getLast?_reverse, List.head?_map] at hc
      simp only [lead0, decide_eq_true h1, Bool.and_true, beq_eq_false_iff_ne] at hl0
      cases hh : s.head? with
      | none => rw [hh] at hc; cases hc
      | some b =>
        rw [hh] at hc hl0
        simp only [Option.map_some, Option.some.injEq] at hc
        apply hl0
        rw [Option.some.injEq]
        apply UInt8.toNat_inj.1
        have : ((48 : UInt8).toNat : Int) = 48 := rfl
        omega
    · left
      have : s.length ≠ 0 := fun h => hne (List.eq_nil_of_length_eq_zero h)
      omega
  have hn := dv_nonneg l hl
  have hk : l.length ≤ 20 := by
    by_cases hk : l.length ≤ 20
    · exact hk
    · exfalso
      have hb := dv_big l hne' hl (hlast.resolve_left (by omega))
      have hp : (10 : Int) ^ 19 ≤ 10 ^ (l.length - 1) := by
        have hq : (1 : Int) ≤ 10 ^ (l.length - 20) := by
          have : (0 : Int) < 10 ^ (l.length - 20) := Int.pow_pos (by decide)
          omega
        have e : (10 : Int) ^ (l.length - 1) = 10 ^ 19 * 10 ^ (l.length - 20) := by rw [← Int.pow_add]; congr 1; omega
        rw [e, p19]; omega
      rw [p19] at hp
      omega
  have hr := rd_dv 20 l hne' hl hk hlast
  refine ⟨?_, by omega⟩
  rw [hval, hr]
  exact hs
/-- .. and back. -/
theorem canon_of {u : Int} (h0 : 0 ≤ u) (h1 : u ≤ 9223372036854775808) (d : List UInt8) (e : d = toB (rd 20 u).reverse) : d ≠ [] ∧ lead0 d = false ∧ digs d = true ∧ val d = u ∧ (0 < u → d.head? ≠ some 48) := by
  subst e
  have hd := rd_digits 20 u h0
  have hp := p20
  have hv : val (toB (rd 20 u).reverse) = u := by rw [val_toB hd, dv_rd 20 u h0 (by omega)]
  have hz : 0 < u → (toB (rd 20 u).reverse).head? ≠ some 48 := by
    intro hu
    obtain ⟨d, h1, h2⟩ := rd_last 20 u hu (by omega)
    have hm : d ∈ rd 20 u := List.mem_of_getLast? h1
    have h3 : (toB (rd 20 u).reverse).head? = some (UInt8.ofNat d.toNat) := by
      simp only [toB, List.head?_map, List.head?_reverse, h1]; rfl
    have h4 : UInt8.ofNat d.toNat ≠ 48 := by
      intro e
      have := toB_toNat (hd d hm)
      rw [e] at this
      have e48 : ((48 : UInt8).toNat : Int) = 48 := rfl
      omega
    rw [h3]; simpa using h4
  refine ⟨?_, ?_, digs_toB fun d h => hd d (List.mem_reverse.1 h), hv, hz⟩
  · unfold rd; simp [toB]
  · by_cases h : u = 0
    · subst h; rfl
    · have := hz (by omega)
      simp [lead0, this]

/-! ### Parse -/

theorem from_01 (s : List UInt8) : from_ s = 0 ∨ from_ s = 1 := by unfold from_; split <;> simp
def neg (s : List UInt8) : Bool := from_ s == 1
def body (s : List UInt8) : List UInt8 := s.drop (from_ s).toNat
theorem body_len (s : List UInt8) : s.length = (from_ s).toNat + (body s).length := by
  unfold body
  rw [List.length_drop]
  unfold from_
  split
  · rename_i h
    cases s with
    | nil => cases h
    | cons a l => simp; omega
  · simp
theorem fin_eq {f : Int} (hf : f = 0 ∨ f = 1) {d : List UInt8} (hd : digs d = true) : pEnd f (pAcc 0 d) = fin (f == 1) (val d) := by
  have hv : 0 ≤ val d := valF_ge d 0 (Int.le_refl 0) hd
  have e := pAcc_eq d 0 (Int.le_refl 0) (by decide) hd
  rw [show (-0 : Int) = 0 from rfl] at e
  have e : pAcc 0 d = if least ≤ -(val d) then some (-(val d)) else none := e
  rw [e]
  generalize val d = v at hv
  unfold fin
  have hl : least = -9223372036854775808 := rfl
  by_cases h : v > 9223372036854775808
  · rw [if_neg (by omega), if_pos h]; rfl
  · rw [if_pos (by omega), if_neg h]
    unfold pEnd
    dsimp only
    rcases hf with rfl | rfl
    · rw [if_neg (by decide)]
      by_cases h2 : v = 9223372036854775808
      · rw [if_pos (by omega), if_pos h2]; rfl
      · rw [if_neg (by omega), if_neg h2, Int.neg_neg]; rfl
    · rw [if_pos rfl]
      by_cases h2 : v = 9223372036854775808
      · rw [if_pos h2, h2]; rfl
      · rw [if_neg h2]; rfl
/-- The shape of a number: the program's test and the document's. -/
def shape (s : List UInt8) : Bool := !(body s == []) && (!((body s).head? == some 48 && decide (1 < s.length)) && digs (body s))
theorem parseV_eq (s : List UInt8) : parseV s = if shape s then fin (neg s) (val (body s)) else (0, 5) := by
  unfold parseV shape
  change (if body s = [] ∨ (body s).head? = some 48 ∧ 1 < s.length then (0, 5) else pRes (from_ s) (body s)) = _
  by_cases h1 : body s = []
  · rw [if_pos (.inl h1), h1]; rfl
  · have h1' : (body s == []) = false := by simpa using h1
    by_cases h2 : (body s).head? = some 48 ∧ 1 < s.length
    · rw [if_pos (.inr h2), h1', h2.1, decide_eq_true h2.2]; rfl
    · have h2' : ((body s).head? == some 48 && decide (1 < s.length)) = false := by
        rw [← Bool.not_eq_true, Bool.and_eq_true, beq_iff_eq, decide_eq_true_eq]; exact h2
      rw [if_neg (by rintro (h | h); exact h1 h; exact h2 h), h1', h2']
      unfold pRes
      by_cases hd : digs (body s) = true
      · rw [if_pos hd, fin_eq (from_01 s) hd, hd]; rfl
      · rw [if_neg hd, show digs (body s) = false by simpa using hd]; rfl

theorem bt_head {d : List UInt8} (h : d ≠ []) : (bt d 0 == 48) = (d.head? == some 48) := by
  cases d with
  | nil => exact absurd rfl h
  | cons a l =>
    rw [bt0]
    have := head48 (b := a)
    rw [Bool.eq_iff_iff, beq_iff_eq, beq_iff_eq, this]
    simp
/-- What the program's Parse comes to. -/
theorem np_eq (s : List UInt8) : npR (neg s) (body s) (decide (0 < ((body s).length : Int))) false 0 0 = parseV s := by
  rw [parseV_eq]
  unfold npR
  have hb := body_len s
  by_cases h : body s = []
  · rw [h]
    unfold shape; rw [h]; rfl
  · have h0 : (body s).length ≠ 0 := fun c => h (List.eq_nil_of_length_eq_zero c)
    have hl : leadB (neg s) (body s) 0 = ((body s).head? == some 48 && decide (1 < s.length)) := by
      unfold leadB neg
      rw [bt_head h, decide_eq_true rfl, Bool.true_and]
      congr 1
      rcases from_01 s with e | e
      · rw [e] at hb ⊢
        rw [Bool.eq_iff_iff]
        simp at hb ⊢
        omega
      · rw [e] at hb ⊢
        rw [Bool.eq_iff_iff]
        simp at hb ⊢
        omega
    have hs : (decide (0 < ((body s).length : Int)) = true ∧ digs (List.drop (Int.toNat 0) (body s)) = true ∧ leadB (neg s) (body s) 0 = false) ↔ shape s = true := by
      rw [hl]
      unfold shape
      have : List.drop (Int.toNat 0) (body s) = body s := rfl
      rw [this]
      have h' : (body s == []) = false := by simpa using h
      rw [h']
      have : 0 < ((body s).length : Int) := by omega
      rw [decide_eq_true this]
      simp only [Bool.not_false, Bool.true_and, Bool.and_eq_true, Bool.not_eq_true', true_and]
      exact And.comm
    by_cases c : shape s = true
    · rw [if_pos (hs.2 c), if_pos c]; rfl
    · rw [if_neg (fun k => c (hs.1 k)), if_neg c]

theorem tp_eq (s : List UInt8) : tp s = body s := by
  unfold tp body from_ Lib.trimPrefix
  cases s with
  | nil => rfl
  | cons a l =>
    by_cases h : a = 45
    · subst h; simp [Lib.hasPrefix, List.isPrefixOf]
    · have h2 : (45 : UInt8) ≠ a := fun c => h c.symm
      simp [h, Lib.hasPrefix, List.isPrefixOf, h2]
theorem numB_eq (s : List UInt8) : numB s = shape s := by
  unfold numB shape
  rw [tp_eq]
  have hb := body_len s
  by_cases h : body s = []
  · rw [h]; rfl
  · have h' : (body s == []) = false := by simpa using h
    have h0 : (body s).length ≠ 0 := fun c => h (List.eq_nil_of_length_eq_zero c)
    rw [h', bt_head h]
    congr 1
    by_cases h48 : ((body s).head? == some 48) = true
    · rw [h48]
      congr 1
      simp only [Bool.not_true, Bool.false_or, Bool.true_and]
      have h48 := beq_iff_eq.1 h48
      rw [Bool.eq_iff_iff, beq_iff_eq]
      simp only [Bool.not_eq_true', decide_eq_false_iff_not]
      constructor
      · intro e; rw [e]; decide
      · intro hl
        have h1 : (body s).length = 1 ∧ (from_ s).toNat = 0 := by omega
        have h2 : s = body s := by unfold body; rw [h1.2]; rfl
        rw [h2]
        cases hbs : body s with
        | nil => exact absurd hbs h
        | cons a l =>
          rw [hbs] at h48 h1
          have hl : l = [] := List.eq_nil_of_length_eq_zero (by simpa using h1.1)
          have ha : a = 48 := by simpa using h48
          rw [hl, ha]
    · have h48 : ((body s).head? == some 48) = false := by simpa using h48
      rw [h48]; rfl
theorem numB_iff (s : List UInt8) : numB s = true ↔ (parseV s).2 ≠ 5 := by
  rw [numB_eq, parseV_eq]
  by_cases h : shape s = true
  · rw [if_pos h]
    refine ⟨fun _ => ?_, fun _ => h⟩
    unfold fin
    (repeat' split) <;> (intro c; cases c)
  · rw [if_neg h]
    exact ⟨fun c => absurd c h, fun c => absurd rfl c⟩

theorem fin_ok {g : Bool} {v n : Int} (hv : 0 ≤ v) (h : fin g v = (n, 0)) : v ≤ 9223372036854775808 ∧ (g = true → n = -v) ∧ (g = false → n = v ∧ v ≤ 9223372036854775807) := by
  unfold fin at h
  split at h
  · injection h with _ h; cases h
  · split at h
    · rename_i hv2
      cases g with
      | true =>
        injection h with h _
        exact ⟨by omega, (fun _ => by omega), (fun c => Bool.noConfusion c)⟩
      | false => injection h with _ h; cases h
    · cases g with
      | true =>
        injection h with h _
        exact ⟨by omega, (fun _ => by omega), (fun c => Bool.noConfusion c)⟩
      | false =>
        injection h with h _
        exact ⟨by omega, (fun c => Bool.noConfusion c), (fun _ => by omega)⟩
theorem fin_of {g : Bool} {v : Int} (h1 : v ≤ 9223372036854775807 ∨ (g = true ∧ v = 9223372036854775808)) : fin g v = ((if g then -v else v), 0) := by
  unfold fin
  rw [if_neg (by omega)]
  split
  · rename_i h
    obtain ⟨hg, _⟩ := h1.resolve_left (by omega)
    rw [hg, h]; rfl
  · cases g <;> rfl
theorem fmt_neg {n : Int} (h0 : n < 0) (h1 : -9223372036854775808 ≤ n) : fmt n = 45 :: toB (rd 20 (-n)).reverse := by
  have hs : size n = -n := by
    unfold size
    rw [if_pos h0]
    simp only [u64_def]
    omega
  unfold fmt backs
  rw [hs, if_pos h0, List.reverse_append]
  rfl
theorem from_cons {a : UInt8} {l : List UInt8} : from_ (a :: l) = if a = 45 then 1 else 0 := by
  unfold from_; simp
theorem shape_iff (s : List UInt8) : shape s = true ↔ body s ≠ [] ∧ ¬ ((body s).head? = some 48 ∧ 1 < s.length) ∧ digs (body s) = true := by
  unfold shape
  simp only [Bool.and_eq_true, Bool.not_eq_true', beq_eq_false_iff_ne, ne_eq, Bool.and_eq_false_iff, decide_eq_false_iff_not]
  constructor
  · rintro ⟨a, b, c⟩
    exact ⟨a, fun h => by rcases b with b | b; exact b h.1; exact b h.2, c⟩
  · rintro ⟨a, b, c⟩
    refine ⟨a, ?_, c⟩
    by_cases h : (body s).head? = some 48
    · right; intro h2; exact b ⟨h, h2⟩
    · left; exact h
theorem parse_canon {s : List UInt8} {n : Int} (h : parseV s = (n, 0)) : s = fmt n ∧ -9223372036854775808 ≤ n ∧ n ≤ 9223372036854775807 := by
  rw [parseV_eq] at h
  by_cases hs : shape s = true
  · rw [if_pos hs] at h
    obtain ⟨hne, hl, hd⟩ := (shape_iff s).1 hs
    have hv0 : 0 ≤ val (body s) := valF_ge _ 0 (Int.le_refl 0) hd
    obtain ⟨h1, h2, h3⟩ := fin_ok hv0 h
    have hb := body_len s
    have hlead : lead0 (body s) = false := by
      unfold lead0
      rw [← Bool.not_eq_true, Bool.and_eq_true, beq_iff_eq, decide_eq_true_eq]
      rintro ⟨a, b⟩
      exact hl ⟨a, by omega⟩
    obtain ⟨k1, k2⟩ := canon hne hlead hd h1
    rcases from_01 s with e | e
    · have hg : neg s = false := by unfold neg; rw [e]; rfl
      obtain ⟨h3, h4⟩ := h3 hg
      refine ⟨?_, by omega, by omega⟩
      have : s = body s := by unfold body; rw [e]; rfl
      rw [h3, fmt_pos hv0 h4, ← k1]; exact this
    · have hg : neg s = true := by unfold neg; rw [e]; rfl
      have h2 := h2 hg
      have h0 : (body s).length ≠ 0 := fun c => hne (List.eq_nil_of_length_eq_zero c)
      rw [e] at hb
      have h48 : (body s).head? ≠ some 48 := fun c => hl ⟨c, by simp at hb; omega⟩
      have hpos : 1 ≤ val (body s) := by
        cases hbs : body s with
        | nil => exact absurd hbs hne
        | cons a l =>
          rw [hbs] at hd h48
          simp only [digs, List.all_cons, Bool.and_eq_true] at hd
          exact val_pos hd.1 (by simpa using h48) hd.2
      refine ⟨?_, by omega, by omega⟩
      rw [fmt_neg (by omega) (by omega), show -n = val (body s) by omega, ← k1]
      cases s with
      | nil => simp [from_] at e
      | cons a l =>
        rw [from_cons] at e
        split at e
        · rename_i ha
          subst ha
          rfl
        · cases e
  · rw [if_neg hs] at h; injection h with _ h; cases h
theorem parse_fmt {n : Int} (h0 : -9223372036854775808 ≤ n) (h1 : n ≤ 9223372036854775807) : parseV (fmt n) = (n, 0) := by
  rw [parseV_eq]
  by_cases hn : n < 0
  · obtain ⟨k1, k2, k3, k4, k5⟩ := canon_of (u := -n) (by omega) (by omega) _ rfl
    have hf := fmt_neg hn h0
    have ef : from_ (fmt n) = 1 := by rw [hf, from_cons, if_pos rfl]
    have eb : body (fmt n) = toB (rd 20 (-n)).reverse := by unfold body; rw [ef, hf]; rfl
    have hs : shape (fmt n) = true := by
      rw [shape_iff, eb]
      exact ⟨k1, fun c => k5 (by omega) c.1, k3⟩
    have eg : neg (fmt n) = true := by unfold neg; rw [ef]; rfl
    rw [if_pos hs, eb, k4, eg, fin_of (by rcases Int.lt_or_le 9223372036854775807 (-n) with h | h; exact .inr ⟨rfl, by omega⟩; exact .inl h)]
    simp
  · obtain ⟨k1, k2, k3, k4, k5⟩ := canon_of (u := n) (by omega) (by omega) _ rfl
    have hf := fmt_pos (n := n) (by omega) h1
    have ef : from_ (fmt n) = 0 := by
      rw [hf]
      unfold from_
      rw [if_neg]
      intro c
      cases hx : toB (rd 20 n).reverse with
      | nil => exact k1 hx
      | cons a l =>
        rw [hx] at c k3
        simp only [digs, List.all_cons, Bool.and_eq_true] at k3
        have ha : a = 45 := by simpa using c
        have := isDig_iff.1 k3.1
        rw [ha] at this
        exact absurd this (by decide)
    have eb : body (fmt n) = toB (rd 20 n).reverse := by unfold body; rw [ef, hf]; rfl
    have hs : shape (fmt n) = true := by
      rw [shape_iff, eb, hf]
      refine ⟨k1, fun c => ?_, k3⟩
      unfold lead0 at k2
      rw [c.1, decide_eq_true c.2] at k2
      cases k2
    have eg : neg (fmt n) = false := by unfold neg; rw [ef]; rfl
    rw [if_pos hs, eb, k4, eg, fin_of (.inl h1)]
    rfl

end Go.Proofs.YtkmohnciiincmaaDoor
set_option linter.unusedSimpArgs false
set_option linter.unusedVariables false
set_option maxRecDepth 100000
namespace Go.Proofs.YtkmohnciiincmaaDoor
open Go.Sx

theorem small_le {s t : List UInt8} (h : t.length ≤ s.length) (hs : small s = true) : small t = true := by
  rw [small_iff] at hs ⊢; omega
theorem head45 {b : UInt8} : (b.toNat : Int) = 45 ↔ b = 45 := ⟨fun h => UInt8.toNat_inj.1 (by have : (45 : UInt8).toNat = 45 := rfl; omega), fun h => by subst h; rfl⟩
theorem s_np (s : List UInt8) (hs : small s = true) : SCall Tryd.prog 15 [.str s] (pS (parseV s)) := by
  refine scallR_loops rfl rfl (by kernel_rfl) (runsR_seg (hK (l := []) trivial) (n := 1000) (hint := .unit) (keep := keepS 99 [4, 5, 6, 7, 8, 9]) (p := np0_p) (boxes := []) rfl ?_)
  have e := np0 s
  unfold startS codeS at e
  erw [e]
  unfold np0_t
  have go : ∀ g d, neg s = g → body s = d → ∀ ok : Bool, ok = decide (0 < (d.length : Int)) → RunsR Tryd.prog (fnOf Tryd.prog 15) (pS (parseV s)) (loopOf Tryd.prog 15 0) (slotsS 99 [(4, SV.bool g), (5, SV.str d), (6, SV.bool ok), (7, SV.bool false), (8, SV.int IntKind.u64 0), (9, I64 0)]) [] := by
    intro g d hg hd ok hok
    have hb := body_len s
    have hd' : small d = true := small_le (s := s) (by rw [← hd]; omega) hs
    refine np_loop g d hd' ok (parseV s) ⟨false, 0, 0⟩ ⟨Int.le_refl 0, by dsimp only; omega, Int.le_refl 0, by decide, ?_⟩
    rw [← np_eq s, hg, hd, hok]
  cases s with
  | nil =>
    simp only [Tree.holds]
    refine ⟨fun h => (by cases h), fun _ => ⟨slotsS_len _ _, go false [] rfl rfl _ rfl⟩⟩
  | cons b l =>
    simp only [Tree.holds]
    refine ⟨fun h => ⟨h, fun c => ⟨by simp; omega, ?_⟩, fun c => ?_⟩, fun h => ?_⟩
    · have hb : b = 45 := head45.1 (by rw [← bt0 (b := b) (l := l)]; exact beq_iff_eq.1 c)
      rw [c]
      refine ⟨slotsS_len _ _, go true l ?_ ?_ _ rfl⟩
      · unfold neg; rw [from_cons, if_pos hb]; rfl
      · unfold body; rw [from_cons, if_pos hb]; rfl
    · have hb : ¬ b = 45 := fun h => by
        have := head45.2 h
        rw [← bt0 (b := b) (l := l)] at this
        rw [this] at c; cases c
      rw [c]
      refine ⟨slotsS_len _ _, go false (b :: l) ?_ ?_ _ rfl⟩
      · unfold neg; rw [from_cons, if_neg hb]; rfl
      · unfold body; rw [from_cons, if_neg hb]; rfl
    · have h := of_decide_eq_false h
      simp at h
def fNP : Fact := factT 15 fun s => .leaf (.tuple [I64 (parseV s).1, I64 (parseV s).2])
def fRP : Fact := factT 21 fun s => .leaf (.tuple [I64 (parseV s).1, I64 (parseV s).2])
theorem o_np : fNP.ok Tryd.prog := factT_ok s_np
theorem o_rp : fRP.ok Tryd.prog := factT_ok s_parse
end Go.Proofs.YtkmohnciiincmaaDoor
set_option linter.unusedSimpArgs false
set_option linter.unusedVariables false
set_option maxRecDepth 100000
namespace Go.Proofs.YtkmohnciiincmaaDoor
open Go.Sx
def pc0_p : Plan := .fork (.lit (.lit (.lit (.lit (.lit (.lit (.lit (.lit (.lit (.lit (.lit (.lit (.lit (.lit (.lit (.all)))))))))))))))) (.lit (.lit (.lit (.fork (.lit (.lit (.lit (.lit (.lit (.fork (.lit (.lit (.lit (.lit (.lit (.lit (.lit (.lit (.lit (.all)))))))))) (.lit (.lit (.lit (.lit (.fork (.lit (.lit (.lit (.lit (.all))))) (.lit (.lit (.lit (.fork (.all) (.fork (.lit (.lit (.lit (.all)))) (.lit (.lit (.fork (.all) (.fork (.fork (.all) (.all)) (.fork (.all) (.all)))))))))))))))))))))) (.lit (.lit (.lit (.lit (.lit (.lit (.lit (.lit (.lit (.lit (.fork (.lit (.lit (.lit (.lit (.all))))) (.lit (.lit (.lit (.fork (.all) (.fork (.lit (.lit (.lit (.all)))) (.lit (.lit (.fork (.all) (.fork (.fork (.all) (.all)) (.fork (.all) (.all))))))))))))))))))))))))))
noncomputable def pc0_t (s : List UInt8) : Tree Stop :=
   .node (s == [])
 (.leaf (Stop.done (SV.tuple [I64 0, I64 5])))
 (.req (decide (0 < (↑s.length : Int))) (.node ((bt s 0) != 71)
   (.req (decide (0 < (↑s.length : Int))) (.node ((bt s 0) != 77)
     (.leaf (Stop.done (SV.tuple [I64 0, I64 5])))
     (.req (decide (1 ≤ (↑s.length : Int))) (.node (!numB (List.drop 1 s))
       (.leaf (Stop.done (SV.tuple [I64 0, I64 5])))
       (.req (decide (1 < (↑s.length : Int))) (.node ((bt s 1) == 45)
         (.leaf (Stop.done (SV.tuple [I64 0, I64 5])))
         (.req (decide (1 ≤ (↑s.length : Int))) (.req (small (List.drop 1 s)) (.node ((parseV (List.drop 1 s)).snd != 0)
            (.leaf (Stop.done (SV.tuple [I64 0, I64 22])))
            (.node (decide ((parseV (List.drop 1 s)).fst ≥ 1000))
             (.leaf (Stop.done (SV.tuple [I64 0, I64 22])))
             (.req (decide (0 < (↑s.length : Int))) (.node ((bt s 0) == 77)
               (.node (!okC (IntKind.i64.wrap ((parseV (List.drop 1 s)).fst + 1000)))
                (.leaf (Stop.done (SV.tuple [I64 0, I64 22])))
                (.leaf (Stop.done (SV.tuple [I64 (IntKind.i64.wrap ((parseV (List.drop 1 s)).fst + 1000)), I64 0]))))
               (.node (!okC (parseV (List.drop 1 s)).fst)
                (.leaf (Stop.done (SV.tuple [I64 0, I64 22])))
                (.leaf (Stop.done (SV.tuple [I64 (parseV (List.drop 1 s)).fst, I64 0]))))))))))))))))
   (.req (decide (1 ≤ (↑s.length : Int))) (.node (!numB (List.drop 1 s))
     (.leaf (Stop.done (SV.tuple [I64 0, I64 5])))
     (.req (decide (1 < (↑s.length : Int))) (.node ((bt s 1) == 45)
       (.leaf (Stop.done (SV.tuple [I64 0, I64 5])))
       (.req (decide (1 ≤ (↑s.length : Int))) (.req (small (List.drop 1 s)) (.node ((parseV (List.drop 1 s)).snd != 0)
          (.leaf (Stop.done (SV.tuple [I64 0, I64 22])))
          (.node (decide ((parseV (List.drop 1 s)).fst ≥ 1000))
           (.leaf (Stop.done (SV.tuple [I64 0, I64 22])))
           (.req (decide (0 < (↑s.length : Int))) (.node ((bt s 0) == 77)
             (.node (!okC (IntKind.i64.wrap ((parseV (List.drop 1 s)).fst + 1000)))
              (.leaf (Stop.done (SV.tuple [I64 0, I64 22])))
              (.leaf (Stop.done (SV.tuple [I64 (IntKind.i64.wrap ((parseV (List.drop 1 s)).fst + 1000)), I64 0]))))
             (.node (!okC (parseV (List.drop 1 s)).fst)
              (.leaf (Stop.done (SV.tuple [I64 0, I64 22])))
              (.leaf (Stop.done (SV.tuple [I64 (parseV (List.drop 1 s)).fst, I64 0]))))))))))))))))
theorem pc0 (s : List UInt8) : segR (Env.of Tryd.prog (sumOf [fNumber, fNP, fWords])) 1000 (fnOf Tryd.prog 11) .unit (keepS 58 []) (codeS Tryd.prog 11) pc0_p (startS Tryd.prog 11 [.str s]) [] = pc0_t s := by kernel_rfl
def rc0_p : Plan := .all
noncomputable def rc0_t (s : List UInt8) : Tree Stop :=
   .leaf (Stop.at (loopOf Tryd.prog 18 0) 52 (slotsS 52 [(0, SV.str s), (4, SV.list (Ty.int IntKind.i64) codes), (5, I64 0)]) [])
theorem rc0 (s : List UInt8) : segR (Env.of Tryd.prog (sumOf [fCodes, fNameR, fRP])) 1000 (fnOf Tryd.prog 18) .unit (keepS 52 [0,4,5]) (codeS Tryd.prog 18) rc0_p (startS Tryd.prog 18 [.str s]) [] = rc0_t s := by kernel_rfl
def rc1_p : Plan := .fork (.fork (.all) (.all)) (.fork (.lit (.lit (.lit (.lit (.lit (.lit (.lit (.lit (.lit (.lit (.all))))))))))) (.lit (.lit (.lit (.fork (.lit (.lit (.lit (.lit (.lit (.fork (.lit (.lit (.lit (.lit (.all))))) (.lit (.lit (.lit (.fork (.all) (.fork (.all) (.all)))))))))))) (.lit (.lit (.lit (.lit (.lit (.lit (.lit (.lit (.lit (.fork (.all) (.fork (.all) (.all)))))))))))))))))
noncomputable def rc1_t (s : List UInt8) (i : Int) : Tree Stop :=
   .node (decide (i < 14))
 (.req (decide (0 ≤ i) && decide (i < 14)) (.node (nameOf (codes.getD i.toNat 0) == s)
   (.req (decide (0 ≤ i) && decide (i < 14)) (.leaf (Stop.done (SV.tuple [I64 (codes.getD i.toNat 0), I64 0]))))
   (.leaf (Stop.at (loopOf Tryd.prog 18 0) 52 (slotsS 52 [(0, SV.str s), (4, SV.list (Ty.int IntKind.i64) codes), (5, I64 (IntKind.i64.wrap (i + 1)))]) []))))
 (.node (decide ((↑s.length : Int) < 2))
  (.leaf (Stop.done (SV.tuple [I64 0, I64 5])))
  (.req (decide (0 < (↑s.length : Int))) (.node ((bt s 0) != 71)
    (.req (decide (0 < (↑s.length : Int))) (.node ((bt s 0) != 77)
      (.leaf (Stop.done (SV.tuple [I64 0, I64 5])))
      (.req (decide (1 < (↑s.length : Int))) (.node ((bt s 1) == 45)
        (.leaf (Stop.done (SV.tuple [I64 0, I64 5])))
        (.req (decide (1 ≤ (↑s.length : Int))) (.req (small (List.drop 1 s)) (.node ((parseV (List.drop 1 s)).snd == 5)
           (.leaf (Stop.done (SV.tuple [I64 0, I64 5])))
           (.leaf (Stop.done (SV.tuple [I64 0, I64 22]))))))))))
    (.req (decide (1 < (↑s.length : Int))) (.node ((bt s 1) == 45)
      (.leaf (Stop.done (SV.tuple [I64 0, I64 5])))
      (.req (decide (1 ≤ (↑s.length : Int))) (.req (small (List.drop 1 s)) (.node ((parseV (List.drop 1 s)).snd == 5)
         (.leaf (Stop.done (SV.tuple [I64 0, I64 5])))
         (.leaf (Stop.done (SV.tuple [I64 0, I64 22])))))))))))
theorem rc1 (s : List UInt8) (i : Int) : segR (Env.of Tryd.prog (sumOf [fCodes, fNameR, fRP])) 1000 (fnOf Tryd.prog 18) .unit (keepS 52 [0,4,5]) (loopOf Tryd.prog 18 0) rc1_p (slotsS 52 [(0, .str s), (4, .list (.int .i64) codes), (5, I64 i)]) [] = rc1_t s i := by kernel_rfl
def wo0_p : Plan := .all
noncomputable def wo0_t (s : List UInt8) : Tree Stop :=
   .leaf (Stop.at (loopOf Tryd.prog 17 0) 32 (slotsS 32 [(0, SV.str s), (3, SV.nilS), (4, I64 0), (5, I64 0)]) [])
theorem wo0 (s : List UInt8) : segR (Env.of Tryd.prog (sumOf [])) 1000 (fnOf Tryd.prog 17) .str (keepS 32 [0,3,4,5]) (codeS Tryd.prog 17) wo0_p (startS Tryd.prog 17 [.str s]) [] = wo0_t s := by kernel_rfl
def wo1a_p : Plan := .fork (.fork (.lit (.lit (.lit (.lit (.lit (.all)))))) (.lit (.lit (.lit (.lit (.fork (.all) (.all))))))) (.all)
noncomputable def wo1a_t (s : List UInt8) (f i : Int) : Tree Stop :=
   .node (decide (i ≤ (↑s.length : Int)))
 (.node (i == (↑s.length : Int))
  (.req (decide (0 ≤ i) && decide (i ≤ (↑s.length : Int)) && decide (0 ≤ f) && decide (f ≤ i)) (.req (decide ([List.drop f.toNat (List.take i.toNat s)].length * 16 ≤ 140737488355328)) (.leaf (Stop.at (loopOf Tryd.prog 17 0) 32 (slotsS 32 [(0, SV.str s), (3, SV.row 0), (4, I64 (IntKind.i64.wrap (i + 1))), (5, I64 (IntKind.i64.wrap (i + 1)))]) [some (Box.rows Ty.str [List.drop f.toNat (List.take i.toNat s)])]))))
  (.req (decide (0 ≤ i) && decide (i < (↑s.length : Int))) (.node ((bt s i) == 32)
    (.req (decide (0 ≤ i) && decide (i ≤ (↑s.length : Int)) && decide (0 ≤ f) && decide (f ≤ i)) (.req (decide ([List.drop f.toNat (List.take i.toNat s)].length * 16 ≤ 140737488355328)) (.leaf (Stop.at (loopOf Tryd.prog 17 0) 32 (slotsS 32 [(0, SV.str s), (3, SV.row 0), (4, I64 (IntKind.i64.wrap (i + 1))), (5, I64 (IntKind.i64.wrap (i + 1)))]) [some (Box.rows Ty.str [List.drop f.toNat (List.take i.toNat s)])]))))
    (.leaf (Stop.at (loopOf Tryd.prog 17 0) 32 (slotsS 32 [(0, SV.str s), (3, SV.nilS), (4, I64 f), (5, I64 (IntKind.i64.wrap (i + 1)))]) [])))))
 (.leaf (Stop.done (SV.list Ty.str [])))
theorem wo1a (s : List UInt8) (f i : Int) : segR (Env.of Tryd.prog (sumOf [])) 1000 (fnOf Tryd.prog 17) .str (keepS 32 [0,3,4,5]) (loopOf Tryd.prog 17 0) wo1a_p (slotsS 32 [(0, .str s), (3, .nilS), (4, I64 f), (5, I64 i)]) [] = wo1a_t s f i := by kernel_rfl
def wo1_p : Plan := .fork (.fork (.lit (.lit (.lit (.lit (.lit (.all)))))) (.lit (.lit (.lit (.lit (.fork (.all) (.all))))))) (.all)
noncomputable def wo1_t (s : List UInt8) (f i : Int) (l : List (List UInt8)) : Tree Stop :=
   .node (decide (i ≤ (↑s.length : Int)))
 (.node (i == (↑s.length : Int))
  (.req (decide (0 ≤ i) && decide (i ≤ (↑s.length : Int)) && decide (0 ≤ f) && decide (f ≤ i)) (.req (decide ((l.length + [List.drop f.toNat (List.take i.toNat s)].length) * 16 ≤ 140737488355328)) (.leaf (Stop.at (loopOf Tryd.prog 17 0) 32 (slotsS 32 [(0, SV.str s), (3, SV.row 0), (4, I64 (IntKind.i64.wrap (i + 1))), (5, I64 (IntKind.i64.wrap (i + 1)))]) [some (Box.rows Ty.str (l ++ [List.drop f.toNat (List.take i.toNat s)]))]))))
  (.req (decide (0 ≤ i) && decide (i < (↑s.length : Int))) (.node ((bt s i) == 32)
    (.req (decide (0 ≤ i) && decide (i ≤ (↑s.length : Int)) && decide (0 ≤ f) && decide (f ≤ i)) (.req (decide ((l.length + [List.drop f.toNat (List.take i.toNat s)].length) * 16 ≤ 140737488355328)) (.leaf (Stop.at (loopOf Tryd.prog 17 0) 32 (slotsS 32 [(0, SV.str s), (3, SV.row 0), (4, I64 (IntKind.i64.wrap (i + 1))), (5, I64 (IntKind.i64.wrap (i + 1)))]) [some (Box.rows Ty.str (l ++ [List.drop f.toNat (List.take i.toNat s)]))]))))
    (.leaf (Stop.at (loopOf Tryd.prog 17 0) 32 (slotsS 32 [(0, SV.str s), (3, SV.row 0), (4, I64 f), (5, I64 (IntKind.i64.wrap (i + 1)))]) [some (Box.rows Ty.str l)])))))
 (.leaf (Stop.done (SV.list Ty.str l)))
theorem wo1 (s : List UInt8) (f i : Int) (l : List (List UInt8)) : segR (Env.of Tryd.prog (sumOf [])) 1000 (fnOf Tryd.prog 17) .str (keepS 32 [0,3,4,5]) (loopOf Tryd.prog 17 0) wo1_p (slotsS 32 [(0, .str s), (3, .row 0), (4, I64 f), (5, I64 i)]) [some (.rows .str l)] = wo1_t s f i l := by kernel_rfl
def le0_p : Plan := .all
noncomputable def le0_t (s : List UInt8) : Tree Stop :=
   .leaf (Stop.at (loopOf Tryd.prog 19 0) 19 (slotsS 19 [(0, SV.str s), (3, I64 0)]) [])
theorem le0 (s : List UInt8) : segR (Env.of Tryd.prog (sumOf [])) 1000 (fnOf Tryd.prog 19) .unit (keepS 19 [0,3]) (codeS Tryd.prog 19) le0_p (startS Tryd.prog 19 [.str s]) [] = le0_t s := by kernel_rfl
def le1_p : Plan := .fork (.fork (.lit (.lit (.lit (.lit (.lit (.fork (.all) (.all))))))) (.lit (.lit (.lit (.lit (.lit (.lit (.all)))))))) (.all)
noncomputable def le1_t (s : List UInt8) (i : Int) : Tree Stop :=
   .node (decide (i < 6))
 (.node (decide ((↑s.length : Int) > 0))
  (.req (decide (0 < (↑s.length : Int))) (.req (decide (0 ≤ i) && decide (i < 6)) (.node ((bt s 0) == ↑(letters.getD i.toNat 0).toNat)
     (.leaf (Stop.done (I64 i)))
     (.leaf (Stop.at (loopOf Tryd.prog 19 0) 19 (slotsS 19 [(0, SV.str s), (3, I64 (IntKind.i64.wrap (i + 1)))]) [])))))
  (.leaf (Stop.at (loopOf Tryd.prog 19 0) 19 (slotsS 19 [(0, SV.str s), (3, I64 (IntKind.i64.wrap (i + 1)))]) [])))
 (.leaf (Stop.done (I64 (-1))))
theorem le1 (s : List UInt8) (i : Int) : segR (Env.of Tryd.prog (sumOf [])) 1000 (fnOf Tryd.prog 19) .unit (keepS 19 [0,3]) (loopOf Tryd.prog 19 0) le1_p (slotsS 19 [(0, .str s), (3, I64 i)]) [] = le1_t s i := by kernel_rfl
end Go.Proofs.YtkmohnciiincmaaDoor
set_option linter.unusedSimpArgs false
set_option linter.unusedVariables false
set_option maxRecDepth 100000
namespace Go.Proofs.YtkmohnciiincmaaDoor
open Go.Sx

/-! ### Codes -/

def codeV (s : List UInt8) : Int × Int := match s with
  | [] => (0, 5)
  | b :: t => if b ≠ 71 ∧ b ≠ 77 then (0, 5) else if numB t = false then (0, 5) else if t.head? = some 45 then (0, 5)
    else if (parseV t).2 ≠ 0 then (0, 22) else if 1000 ≤ (parseV t).1 then (0, 22)
    else if okC ((parseV t).1 + if b = 77 then 1000 else 0) then ((parseV t).1 + (if b = 77 then 1000 else 0), 0) else (0, 22)

theorem codeV_cons (b : UInt8) (t : List UInt8) : codeV (b :: t) = if b ≠ 71 ∧ b ≠ 77 then (0, 5) else if numB t = false then (0, 5) else if t.head? = some 45 then (0, 5)
    else if (parseV t).2 ≠ 0 then (0, 22) else if 1000 ≤ (parseV t).1 then (0, 22)
    else if okC ((parseV t).1 + if b = 77 then 1000 else 0) then ((parseV t).1 + (if b = 77 then 1000 else 0), 0) else (0, 22) := rfl
theorem head_byte (k : UInt8) {b : UInt8} : (b.toNat : Int) = (k.toNat : Int) ↔ b = k := ⟨fun h => UInt8.toNat_inj.1 (by omega), fun h => by rw [h]⟩
theorem head71 {b : UInt8} : (b.toNat : Int) = 71 ↔ b = 71 := head_byte 71
theorem head77 {b : UInt8} : (b.toNat : Int) = 77 ↔ b = 77 := head_byte 77
theorem head32 {b : UInt8} : (b.toNat : Int) = 32 ↔ b = 32 := head_byte 32
theorem bt1 {b : UInt8} {l : List UInt8} : bt (b :: l) 1 = bt l 0 := rfl
theorem bt45 {l : List UInt8} : (bt l 0 == 45) = true ↔ l.head? = some 45 := by
  cases l with
  | nil => simp [bt]
  | cons a l => rw [bt0, beq_iff_eq, head45]; simp

theorem numB_ne {t : List UInt8} (h : numB t = true) : t ≠ [] := by
  intro c; subst c; exact absurd h (by decide)
/-- What is read without a minus sign is not negative. -/
theorem parse_pos {t : List UInt8} (h45 : t.head? ≠ some 45) : 0 ≤ (parseV t).1 ∧ (parseV t).1 ≤ 9223372036854775807 := by
  rw [parseV_eq]
  by_cases hs : shape t = true
  · rw [if_pos hs]
    obtain ⟨hne, hl, hd⟩ := (shape_iff t).1 hs
    have hv0 : 0 ≤ val (body t) := valF_ge _ 0 (Int.le_refl 0) hd
    have hg : neg t = false := by unfold neg from_; rw [if_neg h45]; rfl
    rw [hg]
    generalize val (body t) = v at hv0
    unfold fin
    (repeat' split) <;> constructor <;> dsimp only <;> first | omega | (rename_i c; cases c)
  · rw [if_neg hs]; decide

theorem code_ok (s : List UInt8) : codeV s = (0, 5) ∨ codeV s = (0, 22) ∨ (∃ k, codeV s = (k, 0) ∧ okC k = true) := by
  unfold codeV
  split
  · exact .inl rfl
  · rename_i b t
    generalize ((parseV t).1 + if b = 77 then 1000 else 0) = k
    split
    · exact .inl rfl
    · split
      · exact .inl rfl
      · split
        · exact .inl rfl
        · split
          · exact .inr (.inl rfl)
          · split
            · exact .inr (.inl rfl)
            · split
              · rename_i h
                exact .inr (.inr ⟨_, rfl, h⟩)
              · exact .inr (.inl rfl)

theorem s_code (s : List UInt8) (hs : small s = true) : SCall Tryd.prog 11 [.str s] (pS (codeV s)) := by
  refine scallR_loops rfl rfl (by kernel_rfl) (runsR_seg (hK (l := [fNumber, fNP, fWords]) ⟨o_number, o_np, o_words, trivial⟩) (n := 1000) (hint := .unit) (keep := keepS 58 []) (p := pc0_p) (boxes := []) rfl ?_)
  have e := pc0 s
  unfold startS codeS at e
  erw [e]
  unfold pc0_t
  cases s with
  | nil => exact ⟨fun _ => rfl, fun h => by cases h⟩
  | cons b t =>
    have hlen : (((b :: t).length : Nat) : Int) = (t.length : Int) + 1 := by simp
    have hst : small t = true := small_le (by simp) hs
    have ed : List.drop 1 (b :: t) = t := rfl
    refine ⟨fun h => (by cases h), fun _ => ⟨by first | (simp; done) | (simp; omega), fun h => ⟨by first | (simp; done) | (simp; omega), fun h2 => ?_, fun h2 => ?_⟩, fun h => ?_⟩⟩
    · have h : b ≠ 71 := fun c => by rw [bt0, head71.2 c] at h; cases h
      have h2 : b ≠ 77 := fun c => by rw [bt0, head77.2 c] at h2; cases h2
      show _ = pS (codeV (b :: t))
      rw [codeV_cons]
      rw [if_pos ⟨h, h2⟩]; rfl
    all_goals
      have hb : b = 71 ∨ b = 77 := by
        first
        | exact .inr (by rw [bt0] at h2; exact head77.1 (by simpa using h2))
        | exact .inl (by rw [bt0] at h; exact head71.1 (by simpa using h))
      have hb' : ¬ (b ≠ 71 ∧ b ≠ 77) := fun c => by rcases hb with h | h; exact c.1 h; exact c.2 h
      clear h
      rw [ed, bt1, bt0]
      rw [codeV_cons]
      rw [if_neg hb']
      simp only [Tree.holds, Bool.not_eq_true', Bool.not_eq_false', decide_eq_true_eq, decide_eq_false_iff_not, hst, true_and, bne_iff_ne, bne_eq_false_iff_eq]
      refine ⟨by omega, fun h1 => by rw [if_pos h1]; rfl, fun h1 => ⟨?_, fun h2 => ?_, fun h2 => ⟨by omega, fun h3 => ?_, fun h3 => ⟨fun h4 => ?_, fun h4 => ⟨by omega, fun h5 => ?_, fun h5 => ?_⟩⟩⟩⟩⟩
      · have := numB_ne h1
        have : t.length ≠ 0 := fun c => this (List.eq_nil_of_length_eq_zero c)
        omega
      · rw [if_neg (by rw [h1]; simp), if_pos (bt45.1 h2)]; rfl
      all_goals have h2 : ¬ t.head? = some 45 := fun c => by rw [bt45.2 c] at h2; cases h2
      all_goals have hp := parse_pos h2
      · rw [if_neg (by rw [h1]; simp), if_neg h2, if_pos h3]; rfl
      · rw [if_neg (by rw [h1]; simp), if_neg h2, if_neg (by rw [h3]; simp), if_pos h4]; rfl
      · have h5 : b = 77 := head77.1 (beq_iff_eq.1 h5)
        rw [if_neg (by rw [h1]; simp), if_neg h2, if_neg (by rw [h3]; simp), if_neg (by omega), if_pos h5, wrap64 (by omega) (by omega)]
        refine ⟨fun h6 => ?_, fun h6 => ?_⟩
        · rw [if_neg (by rw [h6]; simp)]; rfl
        · rw [if_pos h6]; rfl
      · have h5 : b ≠ 77 := fun c => by
          have := head77.2 c
          rw [this] at h5; cases h5
        rw [if_neg (by rw [h1]; simp), if_neg h2, if_neg (by rw [h3]; simp), if_neg (by omega), if_neg h5, Int.add_zero]
        refine ⟨fun h6 => ?_, fun h6 => ?_⟩
        · rw [if_neg (by rw [h6]; simp)]; rfl
        · rw [if_pos h6]; rfl

theorem from_fmt {n : Int} (h0 : 0 ≤ n) (h1 : n ≤ 9223372036854775807) : (fmt n).head? ≠ some 45 := by
  obtain ⟨k1, k2, k3, k4, k5⟩ := canon_of (u := n) (by omega) (by omega) _ rfl
  rw [fmt_pos h0 h1]
  intro c
  cases hx : toB (rd 20 n).reverse with
  | nil => exact k1 hx
  | cons a l =>
    rw [hx] at c k3
    simp only [digs, List.all_cons, Bool.and_eq_true] at k3
    have ha : a = 45 := by simpa using c
    have := isDig_iff.1 k3.1
    rw [ha] at this
    exact absurd this (by decide)
theorem okC_range {k : Int} (h : okC k = true) : 0 ≤ k ∧ k < 2000 := by
  have := (okC_codes k).1 h
  unfold codes at this
  simp only [List.mem_cons, List.not_mem_nil, or_false] at this
  omega
theorem code_name {k : Int} (h : okC k = true) : codeV (nameOf k) = (k, 0) := by
  have hr := okC_range h
  have go : ∀ (n : Int) (b : UInt8), b = 71 ∨ b = 77 → 0 ≤ n → n < 1000 → k = n + (if b = 77 then 1000 else 0) → codeV (b :: fmt n) = (k, 0) := by
    intro n b hb h0 h1 hk
    have hp := parse_fmt (n := n) (by omega) (by omega)
    rw [codeV_cons]
    have hn : numB (fmt n) = true := by rw [numB_iff, hp]; simp
    rw [if_neg (fun c => by rcases hb with h | h; exact c.1 h; exact c.2 h), if_neg (by rw [hn]; simp), if_neg (from_fmt h0 (by omega)), hp, if_neg (by simp), if_neg (by dsimp only; omega), ← hk, if_pos h]
  unfold nameOf
  split
  · exact go k 71 (.inl rfl) (by omega) (by omega) (by simp)
  · rw [wrap64 (by omega) (by omega)]
    exact go (k - 1000) 77 (.inr rfl) (by omega) (by omega) (by simp)
theorem name_code {s : List UInt8} {k : Int} (h : codeV s = (k, 0)) : okC k = true ∧ s = nameOf k := by
  unfold codeV at h
  split at h
  · injection h with _ h; cases h
  · rename_i b t
    split at h
    · injection h with _ h; cases h
    · rename_i hb
      split at h
      · injection h with _ h; cases h
      · split at h
        · injection h with _ h; cases h
        · rename_i h45
          split at h
          · injection h with _ h; cases h
          · rename_i hp
            split at h
            · injection h with _ h; cases h
            · rename_i h1000
              generalize hg : ((parseV t).1 + if b = 77 then 1000 else 0) = k' at h
              split at h
              · rename_i hk
                injection h with h _
                rw [h] at hk hg
                have h := hg
                refine ⟨hk, ?_⟩
                have hp0 := parse_pos h45
                have hpp : parseV t = ((parseV t).1, 0) := Prod.ext rfl (by simpa using hp)
                have hc := (parse_canon hpp).1
                generalize (parseV t).1 = n at *
                unfold nameOf
                by_cases h77 : b = 77
                · rw [if_pos h77] at h
                  rw [if_neg (by omega), wrap64 (by omega) (by omega), show k - 1000 = n by omega, h77, hc]; rfl
                · rw [if_neg h77] at h
                  have h71 : b = 71 := by
                    by_cases c : b = 71
                    · exact c
                    · exact absurd ⟨c, h77⟩ hb
                  rw [if_pos (by omega), show k = n by omega, h71, hc]; rfl
              · injection h with _ h; cases h

theorem rc_loop (s : List UInt8) (hs : small s = true) : ∀ i : Int, (0 ≤ i ∧ i ≤ 14 ∧ ∀ j : Nat, (j : Int) < i → nameOf (codes.getD j 0) ≠ s) → RunsR Tryd.prog (fnOf Tryd.prog 18) (pS (codeV s)) (loopOf Tryd.prog 18 0) (slotsS 52 [(0, .str s), (4, .list (.int .i64) codes), (5, I64 i)]) [] := by
  refine runsR_of (hK (l := [fCodes, fNameR, fRP]) ⟨o_codes, o_nameR, o_rp, trivial⟩) (n := 1000) (hint := .unit) rfl (fun i : Int => 0 ≤ i ∧ i ≤ 14 ∧ ∀ j : Nat, (j : Int) < i → nameOf (codes.getD j 0) ≠ s) (fun i => (14 - i).toNat) (keepS 52 [0, 4, 5]) (fun _ => loopOf Tryd.prog 18 0) (fun i => slotsS 52 [(0, .str s), (4, .list (.int .i64) codes), (5, I64 i)]) (fun _ => []) (fun _ => rc1_p) fun i hi => ?_
  obtain ⟨h0, h1, hj⟩ := hi
  rw [rc1]
  unfold rc1_t
  refine ⟨fun h => ⟨by simp; simp at h; omega, fun c => ⟨by simp; simp at h; omega, ?_⟩, fun c => ⟨slotsS_len _ _, .inl ?_⟩⟩, fun h => ?_⟩
  · have c := beq_iff_eq.1 c
    have hm : codes.getD i.toNat 0 ∈ codes := by
      have hl : i.toNat < codes.length := by
        have := of_decide_eq_true h
        show i.toNat < 14; omega
      rw [List.getD_eq_getElem?_getD, List.getElem?_eq_getElem hl]
      exact List.getElem_mem hl
    have := code_name ((okC_codes _).2 hm)
    rw [c] at this
    show _ = pS (codeV s)
    rw [this]; rfl
  · have h := of_decide_eq_true h
    rw [wrap64 (by omega) (by omega)]
    refine ⟨i + 1, ⟨by omega, by omega, fun j hj2 => ?_⟩, by omega, rfl, rfl, rfl⟩
    by_cases e : (j : Int) < i
    · exact hj j e
    · have : j = i.toNat := by omega
      subst this
      intro e2
      rw [e2] at c
      simp at c
  · have h := of_decide_eq_false h
    have no : ∀ k, codeV s ≠ (k, 0) := by
      intro k hk
      obtain ⟨h2, h3⟩ := name_code hk
      obtain ⟨j, hj2⟩ := List.getElem?_of_mem ((okC_codes k).1 h2)
      have hl : j < 14 := (List.getElem?_eq_some_iff.1 hj2).1
      refine hj j (by omega) ?_
      rw [List.getD_eq_getElem?_getD, hj2, h3]; rfl
    cases s with
    | nil => exact ⟨fun _ => rfl, fun c => by cases c⟩
    | cons b t =>
      have hst : small t = true := small_le (by simp) hs
      have ed : List.drop 1 (b :: t) = t := rfl
      refine ⟨fun h2 => ?_, fun h2 => ⟨by first | (simp; done) | (simp; omega), fun h3 => ⟨by first | (simp; done) | (simp; omega), fun h4 => ?_, fun h4 => ?_⟩, fun h3 => ?_⟩⟩
      · have h2 := of_decide_eq_true h2
        have : t = [] := List.eq_nil_of_length_eq_zero (by simp at h2; omega)
        subst this
        show _ = pS (codeV [b])
        rw [codeV_cons]
        split
        · rfl
        · rfl
      · have h : b ≠ 71 := fun c => by rw [bt0, head71.2 c] at h3; cases h3
        have h2 : b ≠ 77 := fun c => by rw [bt0, head77.2 c] at h4; cases h4
        show _ = pS (codeV (b :: t))
        rw [codeV_cons]
        rw [if_pos ⟨h, h2⟩]; rfl
      all_goals
        have hb : b = 71 ∨ b = 77 := by
          first
          | exact .inr (by rw [bt0] at h4; exact head77.1 (by simpa using h4))
          | exact .inl (by rw [bt0] at h3; exact head71.1 (by simpa using h3))
        clear h3
        have hne : t ≠ [] := by intro c; subst c; simp at h2
        have hlt : t.length ≠ 0 := fun c => hne (List.eq_nil_of_length_eq_zero c)
        have hb' : ¬ (b ≠ 71 ∧ b ≠ 77) := fun c => by rcases hb with h | h; exact c.1 h; exact c.2 h
        rw [ed, bt1]
        refine ⟨by first | (simp; done) | (simp; omega), fun h2 => ?_, fun h2 => ⟨by first | (simp; done) | (simp; omega), hst, fun h3 => ?_, fun h3 => ?_⟩⟩
        · show _ = pS (codeV (b :: t))
          rw [codeV_cons]
          rw [if_neg hb']
          split
          · rfl
          · rw [if_pos (bt45.1 h2)]; rfl
        · have hn : numB t = false := by
            rw [← Bool.not_eq_true, numB_iff, ne_eq, Decidable.not_not]
            exact beq_iff_eq.1 h3
          show _ = pS (codeV (b :: t))
          rw [codeV_cons]
          rw [if_neg hb', if_pos hn]; rfl
        · have hn : numB t = true := by
            rw [numB_iff]; simpa using h3
          have h45 : ¬ t.head? = some 45 := fun c => by rw [bt45.2 c] at h2; cases h2
          show _ = pS (codeV (b :: t))
          rcases code_ok (b :: t) with e | e | ⟨k, e, _⟩
          · exfalso
            rw [codeV_cons] at e
            rw [if_neg hb', if_neg (by rw [hn]; simp), if_neg h45] at e
            generalize ((parseV t).1 + if b = 77 then 1000 else 0) = k at e
            split at e
            · injection e with _ e; cases e
            · split at e
              · injection e with _ e; cases e
              · split at e
                · injection e with _ e; cases e
                · injection e with _ e; cases e
          · rw [e]; rfl
          · exact absurd e (no k)
theorem s_codeR (s : List UInt8) (hs : small s = true) : SCall Tryd.prog 18 [.str s] (pS (codeV s)) := by
  refine scallR_loops rfl rfl (by kernel_rfl) (runsR_seg (hK (l := [fCodes, fNameR, fRP]) ⟨o_codes, o_nameR, o_rp, trivial⟩) (n := 1000) (hint := .unit) (keep := keepS 52 [0, 4, 5]) (p := rc0_p) (boxes := []) rfl ?_)
  have e := rc0 s
  unfold startS codeS at e
  erw [e]
  exact ⟨slotsS_len _ _, rc_loop s hs 0 ⟨Int.le_refl 0, by decide, fun j hj => by omega⟩⟩

/-! ### Pieces -/

theorem pieces_app {c : UInt8} : ∀ {x : List UInt8} (y : List UInt8), (∀ b ∈ x, b ≠ c) → pieces c (x ++ y) = (x ++ (pieces c y).headD []) :: (pieces c y).tail
  | [], y, _ => by
    cases h : pieces c y with
    | nil => exact absurd h (pieces_ne c y)
    | cons a r => simp [h]
  | b :: x, y, h => by
    rw [List.cons_append, pieces, if_neg (h b List.mem_cons_self), pieces_app y fun b hb => h b (List.mem_cons_of_mem _ hb)]
    rfl
theorem pieces_sep {c : UInt8} {x r : List UInt8} (h : ∀ b ∈ x, b ≠ c) : pieces c (x ++ c :: r) = x :: pieces c r := by
  rw [pieces_app _ h]
  have : pieces c (c :: r) = [] :: pieces c r := by rw [pieces, if_pos rfl]
  rw [this]; simp
theorem pieces_one {c : UInt8} {x : List UInt8} (h : ∀ b ∈ x, b ≠ c) : pieces c x = [x] := by
  have := pieces_app [] h
  rw [List.append_nil] at this
  rw [this]
  have e : pieces c [] = [[]] := rfl
  rw [e]; simp

structure SW where
  f : Int
  i : Int
  l : List (List UInt8)
/-- The text from f to i has no blank. -/
def SW.inv (s : List UInt8) (a : SW) : Prop :=
  (0 ≤ a.f ∧ a.f ≤ a.i ∧ a.i ≤ s.length ∧ (∀ b ∈ (s.take a.i.toNat).drop a.f.toNat, b ≠ 32) ∧ pieces 32 s = a.l ++ pieces 32 (s.drop a.f.toNat) ∧ (a.l.length : Int) ≤ a.f)
  ∨ (a.i = s.length + 1 ∧ a.l = pieces 32 s)
theorem part_split {s : List UInt8} {f i : Int} (h0 : 0 ≤ f) (h1 : f ≤ i) (h2 : i ≤ s.length) : s.drop f.toNat = (s.take i.toNat).drop f.toNat ++ s.drop i.toNat := by
  conv => lhs; rw [← List.take_append_drop i.toNat s]
  rw [List.drop_append, List.length_take]
  have : f.toNat - min i.toNat s.length = 0 := by omega
  rw [this]; rfl
theorem part_more {s : List UInt8} {f i : Int} {b : UInt8} (h0 : 0 ≤ f) (h1 : f ≤ i) (h2 : i < s.length) (hb : s.drop i.toNat = b :: s.drop (i + 1).toNat) : (s.take (i + 1).toNat).drop f.toNat = (s.take i.toNat).drop f.toNat ++ [b] := by
  have hl : i.toNat < s.length := by omega
  have hg : s[i.toNat] = b := by
    have := List.drop_eq_getElem_cons hl
    rw [hb] at this
    injection this with this _
    exact this.symm
  rw [show (i + 1).toNat = i.toNat + 1 by omega, ← List.take_append_getElem hl, List.drop_append, hg, List.length_take]
  have : f.toNat - min i.toNat s.length = 0 := by omega
  rw [this]; rfl
/-- The steps of both loops. -/
theorem sw_end {s : List UInt8} {a : SW} (h : a.inv s) (he : a.i = s.length) : SW.inv s ⟨a.i + 1, a.i + 1, a.l ++ [(s.take a.i.toNat).drop a.f.toNat]⟩ := by
  rcases h with ⟨h0, h1, h2, h3, h4, h5⟩ | ⟨h0, h1⟩
  · refine .inr ⟨by dsimp only; omega, ?_⟩
    dsimp only
    have e := part_split h0 h1 h2
    have : s.drop a.i.toNat = [] := List.drop_eq_nil_of_le (by omega)
    rw [this, List.append_nil] at e
    rw [h4, e, pieces_one h3]
  · omega
theorem sw_sep {s : List UInt8} {a : SW} (h : a.inv s) (he : a.i < s.length) (hb : bt s a.i = 32) : SW.inv s ⟨a.i + 1, a.i + 1, a.l ++ [(s.take a.i.toNat).drop a.f.toNat]⟩ := by
  rcases h with ⟨h0, h1, h2, h3, h4, h5⟩ | ⟨h0, h1⟩
  · obtain ⟨b, k1, k2⟩ := bt_drop (s := s) (i := a.i) (by omega) he
    have h32 : b = 32 := head32.1 (by omega)
    subst h32
    refine .inl ⟨by dsimp only; omega, by dsimp only; omega, by dsimp only; omega, ?_, ?_, ?_⟩
    · dsimp only
      rw [List.drop_eq_nil_of_le (by rw [List.length_take]; omega)]
      intro b hb; cases hb
    · dsimp only
      have e := part_split h0 h1 h2
      rw [k1] at e
      rw [h4, e, pieces_sep h3, List.append_assoc]; rfl
    · dsimp only
      rw [List.length_append, List.length_singleton]; omega
  · omega
theorem sw_go {s : List UInt8} {a : SW} (h : a.inv s) (he : a.i < s.length) (hb : bt s a.i ≠ 32) : SW.inv s ⟨a.f, a.i + 1, a.l⟩ := by
  rcases h with ⟨h0, h1, h2, h3, h4, h5⟩ | ⟨h0, h1⟩
  · obtain ⟨b, k1, k2⟩ := bt_drop (s := s) (i := a.i) (by omega) he
    refine .inl ⟨h0, by dsimp only; omega, by dsimp only; omega, ?_, h4, h5⟩
    dsimp only
    rw [part_more h0 h1 he k1]
    intro x hx
    rcases List.mem_append.1 hx with hx | hx
    · exact h3 x hx
    · have : x = b := by simpa using hx
      subst this
      exact fun c => hb (by rw [k2]; exact head32.2 c)
  · omega
theorem sw_len {s : List UInt8} {a : SW} (h : a.inv s) (he : a.i ≤ s.length) : 0 ≤ a.f ∧ a.f ≤ a.i ∧ (a.l.length : Int) ≤ s.length := by
  rcases h with ⟨h0, h1, h2, h3, h4, h5⟩ | ⟨h0, h1⟩ <;> omega

theorem wo_loop (s : List UInt8) (hs : small s = true) : ∀ a : SW, a.inv s → RunsR Tryd.prog (fnOf Tryd.prog 17) (.list .str (pieces 32 s)) (loopOf Tryd.prog 17 0) (slotsS 32 [(0, .str s), (3, .row 0), (4, I64 a.f), (5, I64 a.i)]) [some (.rows .str a.l)] := by
  refine runsR_of (hK (l := []) trivial) (n := 1000) (hint := .str) rfl (fun a : SW => a.inv s) (fun a => ((s.length : Int) + 1 - a.i).toNat) (keepS 32 [0, 3, 4, 5]) (fun _ => loopOf Tryd.prog 17 0) (fun a => slotsS 32 [(0, .str s), (3, .row 0), (4, I64 a.f), (5, I64 a.i)]) (fun a => [some (.rows .str a.l)]) (fun _ => wo1_p) fun a ha => ?_
  have hl := small_iff.1 hs
  rw [wo1]
  unfold wo1_t
  simp only [Tree.holds, decide_eq_true_eq, decide_eq_false_iff_not, Bool.and_eq_true, beq_iff_eq, beq_eq_false_iff_ne]
  refine ⟨fun h => ?_, fun h => ?_⟩
  · obtain ⟨k1, k2, k3⟩ := sw_len ha h
    rw [wrap64 (by omega) (by omega)]
    refine ⟨fun e => ⟨⟨⟨⟨by omega, by omega⟩, by omega⟩, by omega⟩, by simp only [List.length_singleton]; omega, slotsS_len _ _, .inl ⟨_, sw_end ha e, by dsimp only; omega, (by first | trivial | rfl), (by first | trivial | rfl), (by first | trivial | rfl)⟩⟩, fun e => ⟨⟨by omega, by omega⟩, fun e2 => ⟨⟨⟨⟨by omega, by omega⟩, by omega⟩, by omega⟩, by simp only [List.length_singleton]; omega, slotsS_len _ _, .inl ⟨_, sw_sep ha (by omega) e2, by dsimp only; omega, (by first | trivial | rfl), (by first | trivial | rfl), (by first | trivial | rfl)⟩⟩, fun e2 => ⟨slotsS_len _ _, .inl ⟨_, sw_go ha (by omega) e2, by dsimp only; omega, (by first | trivial | rfl), (by first | trivial | rfl), (by first | trivial | rfl)⟩⟩⟩⟩
  · rcases ha with ⟨h0, h1, h2, _⟩ | ⟨h0, h1⟩
    · omega
    · rw [h1]
theorem woa_loop (s : List UInt8) (hs : small s = true) : ∀ i : Int, SW.inv s ⟨0, i, []⟩ → RunsR Tryd.prog (fnOf Tryd.prog 17) (.list .str (pieces 32 s)) (loopOf Tryd.prog 17 0) (slotsS 32 [(0, .str s), (3, .nilS), (4, I64 0), (5, I64 i)]) [] := by
  refine runsR_of (hK (l := []) trivial) (n := 1000) (hint := .str) rfl (fun i : Int => SW.inv s ⟨0, i, []⟩) (fun i => ((s.length : Int) + 1 - i).toNat) (keepS 32 [0, 3, 4, 5]) (fun _ => loopOf Tryd.prog 17 0) (fun i => slotsS 32 [(0, .str s), (3, .nilS), (4, I64 0), (5, I64 i)]) (fun _ => []) (fun _ => wo1a_p) fun i ha => ?_
  have hl := small_iff.1 hs
  rw [wo1a]
  unfold wo1a_t
  simp only [Tree.holds, decide_eq_true_eq, decide_eq_false_iff_not, Bool.and_eq_true, beq_iff_eq, beq_eq_false_iff_ne]
  refine ⟨fun h => ?_, fun h => ?_⟩
  · obtain ⟨k1, k2, k3⟩ := sw_len ha h
    dsimp only at k1 k2 k3
    rw [wrap64 (by omega) (by omega)]
    refine ⟨fun e => ⟨⟨⟨⟨by omega, by omega⟩, by omega⟩, by omega⟩, by simp only [List.length_singleton]; omega, slotsS_len _ _, .inr (wo_loop s hs _ (sw_end ha e))⟩, fun e => ⟨⟨by omega, by omega⟩, fun e2 => ⟨⟨⟨⟨by omega, by omega⟩, by omega⟩, by omega⟩, by simp only [List.length_singleton]; omega, slotsS_len _ _, .inr (wo_loop s hs _ (sw_sep ha (by dsimp only; omega) e2))⟩, fun e2 => ⟨slotsS_len _ _, .inl ⟨_, sw_go ha (by dsimp only; omega) e2, by dsimp only; omega, (by first | trivial | rfl), (by first | trivial | rfl), (by first | trivial | rfl)⟩⟩⟩⟩
  · rcases ha with ⟨h0, h1, h2, _⟩ | ⟨h0, h1⟩
    · dsimp only at h2; omega
    · exact absurd h1.symm (pieces_ne 32 s)
theorem s_pieces (s : List UInt8) (hs : small s = true) : SCall Tryd.prog 17 [.str s] (.list .str (pieces 32 s)) := by
  refine scallR_loops rfl rfl (by kernel_rfl) (runsR_seg (hK (l := []) trivial) (n := 1000) (hint := .str) (keep := keepS 32 [0, 3, 4, 5]) (p := wo0_p) (boxes := []) rfl ?_)
  have e := wo0 s
  unfold startS codeS at e
  erw [e]
  exact ⟨slotsS_len _ _, woa_loop s hs 0 (.inl ⟨Int.le_refl 0, Int.le_refl 0, by dsimp only; omega, by simp, rfl, by simp⟩)⟩

/-! ### Letters -/

def ltr (s : List UInt8) : Int := match s with
  | [] => -1
  | b :: _ => Lib.indexByte letters b
theorem ix_cons (b : UInt8) (l : List UInt8) (c : UInt8) : Lib.indexByte (b :: l) c = if b = c then 0 else if Lib.indexByte l c = -1 then -1 else Lib.indexByte l c + 1 := by
  rw [Lib.indexByte]
  by_cases h : b = c
  · simp [h]
  · simp [h]
theorem le_loop (s : List UInt8) (hs : small s = true) : ∀ i : Int, (0 ≤ i ∧ i ≤ 6 ∧ (∀ b t, s = b :: t → ltr s = (if Lib.indexByte (letters.drop i.toNat) b = -1 then -1 else Lib.indexByte (letters.drop i.toNat) b + i))) → RunsR Tryd.prog (fnOf Tryd.prog 19) (I64 (ltr s)) (loopOf Tryd.prog 19 0) (slotsS 19 [(0, .str s), (3, I64 i)]) [] := by
  refine runsR_of (hK (l := []) trivial) (n := 1000) (hint := .unit) rfl (fun i : Int => 0 ≤ i ∧ i ≤ 6 ∧ (∀ b t, s = b :: t → ltr s = (if Lib.indexByte (letters.drop i.toNat) b = -1 then -1 else Lib.indexByte (letters.drop i.toNat) b + i))) (fun i => (6 - i).toNat) (keepS 19 [0, 3]) (fun _ => loopOf Tryd.prog 19 0) (fun i => slotsS 19 [(0, .str s), (3, I64 i)]) (fun _ => []) (fun _ => le1_p) fun i hi => ?_
  obtain ⟨h0, h1, hv⟩ := hi
  have hl := small_iff.1 hs
  rw [le1]
  unfold le1_t
  simp only [Tree.holds, decide_eq_true_eq, decide_eq_false_iff_not, Bool.and_eq_true, beq_iff_eq, beq_eq_false_iff_ne]
  have el : (letters.length : Int) = 6 := rfl
  refine ⟨fun h => ?_, fun h => ?_⟩
  · rw [wrap64 (by omega) (by omega)]
    obtain ⟨c, k1, k2⟩ := bt_drop (s := letters) (i := i) h0 (by omega)
    refine ⟨fun hl => ⟨hl, ⟨h0, h⟩, fun e => ?_, fun e => ⟨slotsS_len _ _, .inl ⟨i + 1, ⟨by omega, by omega, fun b t hst => ?_⟩, by omega, (by first | trivial | rfl), (by first | trivial | rfl), (by first | trivial | rfl)⟩⟩⟩, fun hl => ⟨slotsS_len _ _, .inl ⟨i + 1, ⟨by omega, by omega, fun b t hst => ?_⟩, by omega, (by first | trivial | rfl), (by first | trivial | rfl), (by first | trivial | rfl)⟩⟩⟩
    · cases s with
      | nil => simp at hl
      | cons b t =>
        have := hv b t rfl
        rw [bt0] at e
        have e : (b.toNat : Int) = bt letters i := e
        have hbc : c = b := UInt8.toNat_inj.1 (by omega)
        rw [this, k1, ix_cons, if_pos hbc]
        simp
    · have := hv b t hst
      subst hst
      rw [bt0] at e
      have e : ¬ (b.toNat : Int) = bt letters i := e
      have hbc : ¬ c = b := fun q => e (by rw [k2, q])
      rw [this, k1, ix_cons, if_neg hbc]
      have := Lib.indexByte_ge (letters.drop (i + 1).toNat) b
      by_cases hm : Lib.indexByte (letters.drop (i + 1).toNat) b = -1
      · simp [hm]
      · simp only [hm, if_false]
        rw [if_neg (by omega)]; omega
    · subst hst; simp at hl
  · have e6 : letters.drop i.toNat = [] := List.drop_eq_nil_of_le (by omega)
    cases s with
    | nil => rfl
    | cons b t =>
      have := hv b t rfl
      rw [e6] at this
      rw [this]; rfl
theorem s_letter (s : List UInt8) (hs : small s = true) : SCall Tryd.prog 19 [.str s] (I64 (ltr s)) := by
  refine scallR_loops rfl rfl (by kernel_rfl) (runsR_seg (hK (l := []) trivial) (n := 1000) (hint := .unit) (keep := keepS 19 [0, 3]) (p := le0_p) (boxes := []) rfl ?_)
  have e := le0 s
  unfold startS codeS at e
  erw [e]
  refine ⟨slotsS_len _ _, le_loop s hs 0 ⟨Int.le_refl 0, by decide, fun b t hst => ?_⟩⟩
  subst hst
  show Lib.indexByte letters b = _
  have : letters.drop (Int.toNat 0) = letters := rfl
  rw [this]
  split
  · rename_i h; exact h
  · rw [Int.add_zero]
def fCode : Fact := factT 11 fun s => .leaf (.tuple [I64 (codeV s).1, I64 (codeV s).2])
def fCodeR : Fact := factT 18 fun s => .leaf (.tuple [I64 (codeV s).1, I64 (codeV s).2])
def fPieces : Fact := factT 17 fun s => .leaf (.list .str (pieces 32 s))
def fLetter : Fact := factT 19 fun s => .leaf (I64 (ltr s))
theorem o_code : fCode.ok Tryd.prog := factT_ok s_code
theorem o_codeR : fCodeR.ok Tryd.prog := factT_ok s_codeR
theorem o_pieces : fPieces.ok Tryd.prog := factT_ok s_pieces
theorem o_letter : fLetter.ok Tryd.prog := factT_ok s_letter
end Go.Proofs.YtkmohnciiincmaaDoor
set_option linter.unusedSimpArgs false
set_option linter.unusedVariables false
set_option maxRecDepth 100000
namespace Go.Proofs.YtkmohnciiincmaaDoor
open Go.Sx
def hp (s : List UInt8) : List UInt8 := (pieces 32 s).getD 0 Ty.str.dflt
def nth (l : List (List UInt8)) (i : Int) : List UInt8 := l.getD i.toNat Ty.str.dflt
def ixw (p : List UInt8) : Int := Lib.indexByte letters ((p.getD 0 0).toNat : Int).toNat.toUInt8
def orB (h w : Int) : Int := IntKind.i64.wrap ↑(BitVec.ofInt 64 h ||| BitVec.ofInt 64 (IntKind.i64.wrap (1 * 2 ^ min w.toNat 64))).toNat
def zeroC : C := ⟨0, 0, 0, 0, 0, 0, 0, 0⟩
def pa0_p : Plan := .fork (.all) (.fork (.all) (.all))
noncomputable def pa0_t (s : List UInt8) : Tree Stop :=
   .node (decide ((↑s.length : Int) > 96))
 (.leaf (Stop.done (SV.tuple [SV.agg zeroC.cells, I64 2])))
 (.req (true) (.req (small s) (.req (decide (0 < ((pieces 32 s).length : Int))) (.req (small (hp s)) (.node ((codeV (hp s)).snd != 0)
      (.leaf (Stop.done (SV.tuple [SV.agg zeroC.cells, I64 (codeV (hp s)).snd])))
      (.req (decide (1 ≤ ((pieces 32 s).length : Int))) (.leaf (Stop.at (loopOf Tryd.prog 6 0) 114 (slotsS 114 [(2, SV.ptr 0 0), (7, SV.ptr 1 0), (8, I64 (may (codeV (hp s)).fst)), (9, SV.bool (allW (codeV (hp s)).fst)), (11, I64 (-1)), (12, SV.bool false), (44, SV.list Ty.str (List.drop 1 (pieces 32 s))), (45, I64 ((List.drop 1 (pieces 32 s)).length : Int)), (46, I64 0)]) [some (Box.cells zeroC.cells), some (Box.cells [I64 (codeV (hp s)).fst, I64 0, I64 0, I64 0, I64 0, I64 0, I64 0, I64 0])]))))))))
theorem pa0 (s : List UInt8) : segR (Env.of Tryd.prog (sumOf [fSplit, fCode, fWords, fIndex, fNumber, fNP, fField, fValid])) 1000 (fnOf Tryd.prog 6) .unit (keepS 114 [2,7,8,9,11,12,44,45,46]) (codeS Tryd.prog 6) pa0_p (startS Tryd.prog 6 [.str s]) [] = pa0_t s := by kernel_rfl
def pa1_p : Plan := .fork (.fork (.all) (.fork (.lit (.lit (.lit (.lit (.lit (.lit (.lit (.lit (.lit (.lit (.lit (.all)))))))))))) (.lit (.lit (.lit (.lit (.lit (.fork (.lit (.lit (.lit (.lit (.lit (.all)))))) (.lit (.lit (.lit (.lit (.fork (.all) (.fork (.fork (.lit (.lit (.all))) (.lit (.lit (.all)))) (.fork (.fork (.lit (.lit (.all))) (.lit (.lit (.all)))) (.fork (.fork (.lit (.lit (.all))) (.lit (.lit (.all)))) (.fork (.fork (.lit (.lit (.all))) (.lit (.lit (.all)))) (.fork (.fork (.lit (.lit (.all))) (.lit (.lit (.all)))) (.fork (.lit (.lit (.all))) (.lit (.lit (.all)))))))))))))))))))))) (.fork (.lit (.lit (.lit (.lit (.fork (.all) (.fork (.lit (.lit (.lit (.lit (.all))))) (.lit (.lit (.lit (.fork (.all) (.all))))))))))) (.lit (.lit (.lit (.lit (.lit (.fork (.lit (.lit (.lit (.lit (.all))))) (.lit (.lit (.lit (.fork (.all) (.all))))))))))))
noncomputable def pa1_t (c : C) (m : Int) (al : Bool) (la : Int) (lg : Bool) (l : List (List UInt8)) (i : Int) : Tree Stop :=
   .node (decide (i < (l.length : Int)))
 (.req (decide (0 ≤ i) && decide (i < (l.length : Int))) (.node (nth l i == [])
   (.leaf (Stop.done (SV.tuple [SV.agg zeroC.cells, I64 5])))
   (.req (decide (0 < ((nth l i).length : Int))) (.node (decide (ixw (nth l i) ≤ la))
     (.leaf (Stop.done (SV.tuple [SV.agg zeroC.cells, I64 5])))
     (.req (decide (0 ≤ ixw (nth l i))) (.node (IntKind.i64.wrap ↑(BitVec.ofInt 64 (m.fdiv (2 ^ min (ixw (nth l i)).toNat 64)) &&& BitVec.ofInt 64 1).toNat == 0)
       (.leaf (Stop.done (SV.tuple [SV.agg zeroC.cells, I64 5])))
       (.req (decide (1 ≤ ((nth l i).length : Int))) (.node (!numB (List.drop 1 (nth l i)))
         (.leaf (Stop.done (SV.tuple [SV.agg zeroC.cells, I64 5])))
         (.req (decide (0 ≤ ixw (nth l i))) (.req (decide (1 ≤ ((nth l i).length : Int))) (.req (small (List.drop 1 (nth l i))) (.node (ixw (nth l i) == 0)
             (.node (lg)
              (.leaf (Stop.at (loopOf Tryd.prog 6 0) 114 (slotsS 114 [(2, SV.ptr 0 0), (7, SV.ptr 1 0), (8, I64 m), (9, SV.bool al), (11, I64 (ixw (nth l i))), (12, SV.bool true), (44, SV.list Ty.str l), (45, I64 (l.length : Int)), (46, I64 (IntKind.i64.wrap (i + 1)))]) [some (Box.cells zeroC.cells), some (Box.cells [I64 c.code, I64 (orB c.has (ixw (nth l i))), I64 (parseV (List.drop 1 (nth l i))).fst, I64 c.y, I64 c.z, I64 c.e, I64 c.f, I64 c.s])]))
              (.leaf (Stop.at (loopOf Tryd.prog 6 0) 114 (slotsS 114 [(2, SV.ptr 0 0), (7, SV.ptr 1 0), (8, I64 m), (9, SV.bool al), (11, I64 (ixw (nth l i))), (12, SV.bool ((parseV (List.drop 1 (nth l i))).snd != 0)), (44, SV.list Ty.str l), (45, I64 (l.length : Int)), (46, I64 (IntKind.i64.wrap (i + 1)))]) [some (Box.cells zeroC.cells), some (Box.cells [I64 c.code, I64 (orB c.has (ixw (nth l i))), I64 (parseV (List.drop 1 (nth l i))).fst, I64 c.y, I64 c.z, I64 c.e, I64 c.f, I64 c.s])])))
             (.node (ixw (nth l i) == 1)
              (.node (lg)
               (.leaf (Stop.at (loopOf Tryd.prog 6 0) 114 (slotsS 114 [(2, SV.ptr 0 0), (7, SV.ptr 1 0), (8, I64 m), (9, SV.bool al), (11, I64 (ixw (nth l i))), (12, SV.bool true), (44, SV.list Ty.str l), (45, I64 (l.length : Int)), (46, I64 (IntKind.i64.wrap (i + 1)))]) [some (Box.cells zeroC.cells), some (Box.cells [I64 c.code, I64 (orB c.has (ixw (nth l i))), I64 c.x, I64 (parseV (List.drop 1 (nth l i))).fst, I64 c.z, I64 c.e, I64 c.f, I64 c.s])]))
               (.leaf (Stop.at (loopOf Tryd.prog 6 0) 114 (slotsS 114 [(2, SV.ptr 0 0), (7, SV.ptr 1 0), (8, I64 m), (9, SV.bool al), (11, I64 (ixw (nth l i))), (12, SV.bool ((parseV (List.drop 1 (nth l i))).snd != 0)), (44, SV.list Ty.str l), (45, I64 (l.length : Int)), (46, I64 (IntKind.i64.wrap (i + 1)))]) [some (Box.cells zeroC.cells), some (Box.cells [I64 c.code, I64 (orB c.has (ixw (nth l i))), I64 c.x, I64 (parseV (List.drop 1 (nth l i))).fst, I64 c.z, I64 c.e, I64 c.f, I64 c.s])])))
              (.node (ixw (nth l i) == 2)
               (.node (lg)
                (.leaf (Stop.at (loopOf Tryd.prog 6 0) 114 (slotsS 114 [(2, SV.ptr 0 0), (7, SV.ptr 1 0), (8, I64 m), (9, SV.bool al), (11, I64 (ixw (nth l i))), (12, SV.bool true), (44, SV.list Ty.str l), (45, I64 (l.length : Int)), (46, I64 (IntKind.i64.wrap (i + 1)))]) [some (Box.cells zeroC.cells), some (Box.cells [I64 c.code, I64 (orB c.has (ixw (nth l i))), I64 c.x, I64 c.y, I64 (parseV (List.drop 1 (nth l i))).fst, I64 c.e, I64 c.f, I64 c.s])]))
                (.leaf (Stop.at (loopOf Tryd.prog 6 0) 114 (slotsS 114 [(2, SV.ptr 0 0), (7, SV.ptr 1 0), (8, I64 m), (9, SV.bool al), (11, I64 (ixw (nth l i))), (12, SV.bool ((parseV (List.drop 1 (nth l i))).snd != 0)), (44, SV.list Ty.str l), (45, I64 (l.length : Int)), (46, I64 (IntKind.i64.wrap (i + 1)))]) [some (Box.cells zeroC.cells), some (Box.cells [I64 c.code, I64 (orB c.has (ixw (nth l i))), I64 c.x, I64 c.y, I64 (parseV (List.drop 1 (nth l i))).fst, I64 c.e, I64 c.f, I64 c.s])])))
               (.node (ixw (nth l i) == 3)
                (.node (lg)
                 (.leaf (Stop.at (loopOf Tryd.prog 6 0) 114 (slotsS 114 [(2, SV.ptr 0 0), (7, SV.ptr 1 0), (8, I64 m), (9, SV.bool al), (11, I64 (ixw (nth l i))), (12, SV.bool true), (44, SV.list Ty.str l), (45, I64 (l.length : Int)), (46, I64 (IntKind.i64.wrap (i + 1)))]) [some (Box.cells zeroC.cells), some (Box.cells [I64 c.code, I64 (orB c.has (ixw (nth l i))), I64 c.x, I64 c.y, I64 c.z, I64 (parseV (List.drop 1 (nth l i))).fst, I64 c.f, I64 c.s])]))
                 (.leaf (Stop.at (loopOf Tryd.prog 6 0) 114 (slotsS 114 [(2, SV.ptr 0 0), (7, SV.ptr 1 0), (8, I64 m), (9, SV.bool al), (11, I64 (ixw (nth l i))), (12, SV.bool ((parseV (List.drop 1 (nth l i))).snd != 0)), (44, SV.list Ty.str l), (45, I64 (l.length : Int)), (46, I64 (IntKind.i64.wrap (i + 1)))]) [some (Box.cells zeroC.cells), some (Box.cells [I64 c.code, I64 (orB c.has (ixw (nth l i))), I64 c.x, I64 c.y, I64 c.z, I64 (parseV (List.drop 1 (nth l i))).fst, I64 c.f, I64 c.s])])))
                (.node (ixw (nth l i) == 4)
                 (.node (lg)
                  (.leaf (Stop.at (loopOf Tryd.prog 6 0) 114 (slotsS 114 [(2, SV.ptr 0 0), (7, SV.ptr 1 0), (8, I64 m), (9, SV.bool al), (11, I64 (ixw (nth l i))), (12, SV.bool true), (44, SV.list Ty.str l), (45, I64 (l.length : Int)), (46, I64 (IntKind.i64.wrap (i + 1)))]) [some (Box.cells zeroC.cells), some (Box.cells [I64 c.code, I64 (orB c.has (ixw (nth l i))), I64 c.x, I64 c.y, I64 c.z, I64 c.e, I64 (parseV (List.drop 1 (nth l i))).fst, I64 c.s])]))
                  (.leaf (Stop.at (loopOf Tryd.prog 6 0) 114 (slotsS 114 [(2, SV.ptr 0 0), (7, SV.ptr 1 0), (8, I64 m), (9, SV.bool al), (11, I64 (ixw (nth l i))), (12, SV.bool ((parseV (List.drop 1 (nth l i))).snd != 0)), (44, SV.list Ty.str l), (45, I64 (l.length : Int)), (46, I64 (IntKind.i64.wrap (i + 1)))]) [some (Box.cells zeroC.cells), some (Box.cells [I64 c.code, I64 (orB c.has (ixw (nth l i))), I64 c.x, I64 c.y, I64 c.z, I64 c.e, I64 (parseV (List.drop 1 (nth l i))).fst, I64 c.s])])))
                 (.node (lg)
                  (.leaf (Stop.at (loopOf Tryd.prog 6 0) 114 (slotsS 114 [(2, SV.ptr 0 0), (7, SV.ptr 1 0), (8, I64 m), (9, SV.bool al), (11, I64 (ixw (nth l i))), (12, SV.bool true), (44, SV.list Ty.str l), (45, I64 (l.length : Int)), (46, I64 (IntKind.i64.wrap (i + 1)))]) [some (Box.cells zeroC.cells), some (Box.cells [I64 c.code, I64 (orB c.has (ixw (nth l i))), I64 c.x, I64 c.y, I64 c.z, I64 c.e, I64 c.f, I64 (parseV (List.drop 1 (nth l i))).fst])]))
                  (.leaf (Stop.at (loopOf Tryd.prog 6 0) 114 (slotsS 114 [(2, SV.ptr 0 0), (7, SV.ptr 1 0), (8, I64 m), (9, SV.bool al), (11, I64 (ixw (nth l i))), (12, SV.bool ((parseV (List.drop 1 (nth l i))).snd != 0)), (44, SV.list Ty.str l), (45, I64 (l.length : Int)), (46, I64 (IntKind.i64.wrap (i + 1)))]) [some (Box.cells zeroC.cells), some (Box.cells [I64 c.code, I64 (orB c.has (ixw (nth l i))), I64 c.x, I64 c.y, I64 c.z, I64 c.e, I64 c.f, I64 (parseV (List.drop 1 (nth l i))).fst])])))))))))))))))))))
 (.node (al)
  (.node (c.has != m)
   (.leaf (Stop.done (SV.tuple [SV.agg zeroC.cells, I64 5])))
   (.node (lg)
    (.leaf (Stop.done (SV.tuple [SV.agg zeroC.cells, I64 8])))
    (.node (!c.valid)
     (.leaf (Stop.done (SV.tuple [SV.agg zeroC.cells, I64 8])))
     (.leaf (Stop.done (SV.tuple [SV.agg [I64 c.code, I64 c.has, I64 c.x, I64 c.y, I64 c.z, I64 c.e, I64 c.f, I64 c.s], I64 0]))))))
  (.node (lg)
   (.leaf (Stop.done (SV.tuple [SV.agg zeroC.cells, I64 8])))
   (.node (!c.valid)
    (.leaf (Stop.done (SV.tuple [SV.agg zeroC.cells, I64 8])))
    (.leaf (Stop.done (SV.tuple [SV.agg [I64 c.code, I64 c.has, I64 c.x, I64 c.y, I64 c.z, I64 c.e, I64 c.f, I64 c.s], I64 0]))))))
theorem pa1 (c : C) (m : Int) (al : Bool) (la : Int) (lg : Bool) (l : List (List UInt8)) (i : Int) : segR (Env.of Tryd.prog (sumOf [fSplit, fCode, fWords, fIndex, fNumber, fNP, fField, fValid])) 1000 (fnOf Tryd.prog 6) .unit (keepS 114 [2,7,8,9,11,12,44,45,46]) (loopOf Tryd.prog 6 0) pa1_p (slotsS 114 [(2, .ptr 0 0), (7, .ptr 1 0), (8, I64 m), (9, .bool al), (11, I64 la), (12, .bool lg), (44, .list .str l), (45, I64 (l.length : Int)), (46, I64 i)]) [some (.cells [I64 0, I64 0, I64 0, I64 0, I64 0, I64 0, I64 0, I64 0]), some (.cells c.cells)] = pa1_t c m al la lg l i := by kernel_rfl
def ra0_p : Plan := .fork (.all) (.fork (.all) (.all))
noncomputable def ra0_t (s : List UInt8) : Tree Stop :=
   .node (decide ((↑s.length : Int) > 96))
 (.leaf (Stop.done (SV.tuple [SV.agg zeroC.cells, I64 2])))
 (.req (small s) (.req (decide (0 < ((pieces 32 s).length : Int))) (.req (small (hp s)) (.node ((codeV (hp s)).snd != 0)
     (.leaf (Stop.done (SV.tuple [SV.agg zeroC.cells, I64 (codeV (hp s)).snd])))
     (.req (true) (.leaf (Stop.at (loopOf Tryd.prog 7 0) 129 (slotsS 129 [(2, SV.ptr 0 0), (4, SV.list Ty.str (pieces 32 s)), (5, I64 (codeV (hp s)).fst), (7, SV.ptr 1 0), (8, SV.row 2), (9, I64 (-1)), (10, SV.bool false), (11, I64 1)]) [some (Box.cells zeroC.cells), some (Box.cells [I64 (codeV (hp s)).fst, I64 0, I64 0, I64 0, I64 0, I64 0, I64 0, I64 0]), some (Box.rows (Ty.int IntKind.i64) (List.replicate 6 (0 : Int)))])))))))
theorem ra0 (s : List UInt8) : segR (Env.of Tryd.prog (sumOf [fPieces, fCodeR, fLetter, fAllowed, fRP, fRanged, fComplete])) 1000 (fnOf Tryd.prog 7) .unit (keepS 129 [2,4,5,7,8,9,10,11]) (codeS Tryd.prog 7) ra0_p (startS Tryd.prog 7 [.str s]) [] = ra0_t s := by kernel_rfl
def ra1_p : Plan := .fork (.fork (.lit (.lit (.lit (.lit (.lit (.lit (.lit (.lit (.all))))))))) (.lit (.lit (.lit (.lit (.lit (.lit (.lit (.fork (.all) (.fork (.all) (.fork (.lit (.lit (.lit (.lit (.lit (.lit (.lit (.lit (.all))))))))) (.lit (.lit (.fork (.lit (.lit (.lit (.lit (.lit (.all)))))) (.lit (.lit (.lit (.lit (.lit (.all)))))))))))))))))))) (.fork (.all) (.fork (.all) (.all)))
noncomputable def ra1_t (c : C) (k la : Int) (ou : Bool) (l : List (List UInt8)) (v : List Int) (i : Int) : Tree Stop :=
   .node (decide (i < (l.length : Int)))
 (.req (decide (0 ≤ i) && decide (i < (l.length : Int))) (.req (small (nth l i)) (.node (decide (ltr (nth l i) ≤ la))
    (.leaf (Stop.done (SV.tuple [SV.agg zeroC.cells, I64 5])))
    (.req (decide (0 ≤ IntKind.u64.wrap (ltr (nth l i)))) (.node (IntKind.i64.wrap ↑(BitVec.ofInt 64 ((may k).fdiv (2 ^ min (IntKind.u64.wrap (ltr (nth l i))).toNat 64)) &&& BitVec.ofInt 64 1).toNat == 0)
      (.leaf (Stop.done (SV.tuple [SV.agg zeroC.cells, I64 5])))
      (.req (decide (0 ≤ i) && decide (i < (l.length : Int))) (.req (decide (1 ≤ ((nth l i).length : Int))) (.req (small (List.drop 1 (nth l i))) (.node ((parseV (List.drop 1 (nth l i))).snd == 5)
          (.leaf (Stop.done (SV.tuple [SV.agg zeroC.cells, I64 (parseV (List.drop 1 (nth l i))).snd])))
          (.node (ou)
           (.req (decide (0 ≤ ltr (nth l i)) && decide (ltr (nth l i) < (v.length : Int))) (.req (decide ((ltr (nth l i)).toNat < v.length)) (.req (decide (0 ≤ IntKind.u64.wrap (ltr (nth l i)))) (.leaf (Stop.at (loopOf Tryd.prog 7 0) 129 (slotsS 129 [(2, SV.ptr 0 0), (4, SV.list Ty.str l), (5, I64 k), (7, SV.ptr 1 0), (8, SV.row 2), (9, I64 (ltr (nth l i))), (10, SV.bool true), (11, I64 (IntKind.i64.wrap (i + 1)))]) [some (Box.cells zeroC.cells), some (Box.cells [I64 c.code, I64 (orB c.has (IntKind.u64.wrap (ltr (nth l i)))), I64 c.x, I64 c.y, I64 c.z, I64 c.e, I64 c.f, I64 c.s]), some (Box.rows (Ty.int IntKind.i64) (v.set (ltr (nth l i)).toNat (parseV (List.drop 1 (nth l i))).fst))])))))
           (.node ((parseV (List.drop 1 (nth l i))).snd != 0)
            (.req (decide (0 ≤ ltr (nth l i)) && decide (ltr (nth l i) < (v.length : Int))) (.req (decide ((ltr (nth l i)).toNat < v.length)) (.req (decide (0 ≤ IntKind.u64.wrap (ltr (nth l i)))) (.leaf (Stop.at (loopOf Tryd.prog 7 0) 129 (slotsS 129 [(2, SV.ptr 0 0), (4, SV.list Ty.str l), (5, I64 k), (7, SV.ptr 1 0), (8, SV.row 2), (9, I64 (ltr (nth l i))), (10, SV.bool true), (11, I64 (IntKind.i64.wrap (i + 1)))]) [some (Box.cells zeroC.cells), some (Box.cells [I64 c.code, I64 (orB c.has (IntKind.u64.wrap (ltr (nth l i)))), I64 c.x, I64 c.y, I64 c.z, I64 c.e, I64 c.f, I64 c.s]), some (Box.rows (Ty.int IntKind.i64) (v.set (ltr (nth l i)).toNat (parseV (List.drop 1 (nth l i))).fst))])))))
            (.req (decide (0 ≤ ltr (nth l i)) && decide (ltr (nth l i) < (v.length : Int))) (.req (decide ((ltr (nth l i)).toNat < v.length)) (.req (decide (0 ≤ IntKind.u64.wrap (ltr (nth l i)))) (.leaf (Stop.at (loopOf Tryd.prog 7 0) 129 (slotsS 129 [(2, SV.ptr 0 0), (4, SV.list Ty.str l), (5, I64 k), (7, SV.ptr 1 0), (8, SV.row 2), (9, I64 (ltr (nth l i))), (10, SV.bool !rangedB k (ltr (nth l i)) (parseV (List.drop 1 (nth l i))).fst), (11, I64 (IntKind.i64.wrap (i + 1)))]) [some (Box.cells zeroC.cells), some (Box.cells [I64 c.code, I64 (orB c.has (IntKind.u64.wrap (ltr (nth l i)))), I64 c.x, I64 c.y, I64 c.z, I64 c.e, I64 c.f, I64 c.s]), some (Box.rows (Ty.int IntKind.i64) (v.set (ltr (nth l i)).toNat (parseV (List.drop 1 (nth l i))).fst))]))))))))))))))))
 (.node (!(!may k == 32 || c.has == 32))
  (.leaf (Stop.done (SV.tuple [SV.agg zeroC.cells, I64 5])))
  (.node (ou)
   (.leaf (Stop.done (SV.tuple [SV.agg zeroC.cells, I64 8])))
   (.req (decide (0 < (v.length : Int))) (.req (decide (0 < v.length)) (.req (decide (1 < (v.length : Int))) (.req (decide (1 < v.length)) (.req (decide (2 < (v.length : Int))) (.req (decide (2 < v.length)) (.req (decide (3 < (v.length : Int))) (.req (decide (3 < v.length)) (.req (decide (4 < (v.length : Int))) (.req (decide (4 < v.length)) (.req (decide (5 < (v.length : Int))) (.req (decide (5 < v.length)) (.leaf (Stop.done (SV.tuple [SV.agg [I64 c.code, I64 c.has, I64 (v.getD 0 0), I64 (v.getD 1 0), I64 (v.getD 2 0), I64 (v.getD 3 0), I64 (v.getD 4 0), I64 (v.getD 5 0)], I64 0])))))))))))))))))
theorem ra1 (c : C) (k la : Int) (ou : Bool) (l : List (List UInt8)) (v : List Int) (i : Int) : segR (Env.of Tryd.prog (sumOf [fPieces, fCodeR, fLetter, fAllowed, fRP, fRanged, fComplete])) 1000 (fnOf Tryd.prog 7) .unit (keepS 129 [2,4,5,7,8,9,10,11]) (loopOf Tryd.prog 7 0) ra1_p (slotsS 129 [(2, .ptr 0 0), (4, .list .str l), (5, I64 k), (7, .ptr 1 0), (8, .row 2), (9, I64 la), (10, .bool ou), (11, I64 i)]) [some (.cells [I64 0, I64 0, I64 0, I64 0, I64 0, I64 0, I64 0, I64 0]), some (.cells c.cells), some (.rows (.int .i64) v)] = ra1_t c k la ou l v i := by kernel_rfl
end Go.Proofs.YtkmohnciiincmaaDoor
set_option linter.unusedSimpArgs false
set_option linter.unusedVariables false
set_option maxRecDepth 100000
namespace Go.Proofs.YtkmohnciiincmaaDoor
open Go.Sx

def C.put (c : C) (w x : Int) : C := ⟨c.code, orB c.has w, if w = 0 then x else c.x, if w = 1 then x else c.y, if w = 2 then x else c.z, if w = 3 then x else c.e, if w = 4 then x else c.f, if w = 5 then x else c.s⟩
def pv (p : List UInt8) : Int × Int := parseV (p.drop 1)
def stepOk (m la : Int) (p : List UInt8) : Bool := decide (la < ltr p) && (!(bit m (ltr p) == 0) && numB (p.drop 1))
structure PS where
  la : Int
  lg : Bool
  ou : Bool
  c : C
def pstep (k : Int) (a : PS) (p : List UInt8) : PS := ⟨ltr p, a.lg || (pv p).2 != 0, a.ou || ((pv p).2 != 0 || !rangedB k (ltr p) (pv p).1), a.c.put (ltr p) (pv p).1⟩
def run (k : Int) : List (List UInt8) → PS → Option PS
  | [], a => some a
  | p :: ps, a => if stepOk (may k) a.la p then run k ps (pstep k a p) else none
def endP (k : Int) (a : PS) : C × Int := if allW k && !(a.c.has == may k) then (zeroC, 5) else if a.lg || !a.c.valid then (zeroC, 8) else (a.c, 0)
def endR (k : Int) (a : PS) : C × Int := if !(!(may k == 32) || a.c.has == 32) then (zeroC, 5) else if a.ou then (zeroC, 8) else (a.c, 0)
def resP (k : Int) (o : Option PS) : C × Int := match o with
  | none => (zeroC, 5)
  | some a => endP k a
def resR (k : Int) (o : Option PS) : C × Int := match o with
  | none => (zeroC, 5)
  | some a => endR k a
def startP (k : Int) : PS := ⟨-1, false, false, ⟨k, 0, 0, 0, 0, 0, 0, 0⟩⟩
def parseC (s : List UInt8) : C × Int := if 96 < (s.length : Int) then (zeroC, 2) else if (codeV (hp s)).2 ≠ 0 then (zeroC, (codeV (hp s)).2)
  else resP (codeV (hp s)).1 (run (codeV (hp s)).1 ((pieces 32 s).drop 1) (startP (codeV (hp s)).1))
def parseRC (s : List UInt8) : C × Int := if 96 < (s.length : Int) then (zeroC, 2) else if (codeV (hp s)).2 ≠ 0 then (zeroC, (codeV (hp s)).2)
  else resR (codeV (hp s)).1 (run (codeV (hp s)).1 ((pieces 32 s).drop 1) (startP (codeV (hp s)).1))

/-! ### Bits -/

theorem orB_all : ∀ h : Fin 64, ∀ w : Fin 6, (0 ≤ orB h.val w.val ∧ orB h.val w.val ≤ 63) ∧ ∀ v : Fin 6, bit (orB h.val w.val) v.val = if v = w then 1 else bit h.val v.val := by decide +kernel
theorem orB_sub : ∀ h : Fin 64, ∀ w : Fin 6, ∀ m ∈ [0, 23, 31, 32], andNot h.val m = 0 → bit m w.val ≠ 0 → andNot (orB h.val w.val) m = 0 := by decide +kernel
theorem orB_at {h w : Int} (h0 : 0 ≤ h) (h1 : h ≤ 63) (w0 : 0 ≤ w) (w1 : w < 6) : (0 ≤ orB h w ∧ orB h w ≤ 63) ∧ ∀ v : Int, 0 ≤ v → v < 6 → bit (orB h w) v = if v = w then 1 else bit h v := by
  have := orB_all ⟨h.toNat, by omega⟩ ⟨w.toNat, by omega⟩
  simp only at this
  rw [show ((h.toNat : Nat) : Int) = h by omega, show ((w.toNat : Nat) : Int) = w by omega] at this
  refine ⟨this.1, fun v v0 v1 => ?_⟩
  have h2 := this.2 ⟨v.toNat, by omega⟩
  simp only [Fin.mk.injEq] at h2
  rw [show ((v.toNat : Nat) : Int) = v by omega] at h2
  rw [h2]
  by_cases e : v = w
  · subst e; simp
  · rw [if_neg e, if_neg (by omega)]
theorem may_in (k : Int) : may k ∈ [0, 23, 31, 32] := by
  unfold may
  (repeat' split) <;> simp
theorem orB_may {h w k : Int} (h0 : 0 ≤ h) (h1 : h ≤ 63) (w0 : 0 ≤ w) (w1 : w < 6) (hs : andNot h (may k) = 0) (hb : bit (may k) w ≠ 0) : andNot (orB h w) (may k) = 0 := by
  have := orB_sub ⟨h.toNat, by omega⟩ ⟨w.toNat, by omega⟩ (may k) (may_in k)
  simp only at this
  rw [show ((h.toNat : Nat) : Int) = h by omega, show ((w.toNat : Nat) : Int) = w by omega] at this
  exact this hs hb
theorem num_put (c : C) (w x : Int) {v : Int} (v0 : 0 ≤ v) (v1 : v < 6) : (c.put w x).num v = if v = w then x else c.num v := by
  have h : v = 0 ∨ v = 1 ∨ v = 2 ∨ v = 3 ∨ v = 4 ∨ v = 5 := by omega
  rcases h with rfl | rfl | rfl | rfl | rfl | rfl <;> simp only [C.put, C.num] <;> simp [eq_comm]
theorem rest_iff (c : C) : rest c 6 = true ↔ ∀ i : Int, 0 ≤ i → i < 6 → okW c i = true := by
  refine ⟨rest_all, fun h => ?_⟩
  simp only [rest, Bool.and_eq_true]
  exact ⟨h 0 (by omega) (by omega), h 1 (by omega) (by omega), h 2 (by omega) (by omega), h 3 (by omega) (by omega), h 4 (by omega) (by omega), h 5 (by omega) (by omega), trivial⟩

theorem parse_zero {t : List UInt8} (h : (parseV t).2 ≠ 0) : (parseV t).1 = 0 := by
  rw [parseV_eq] at h ⊢
  by_cases hs : shape t = true
  · rw [if_pos hs] at h ⊢
    revert h
    unfold fin
    (repeat' split) <;> intro h <;> first | rfl | exact absurd rfl h
  · rw [if_neg hs]
theorem parse_range (t : List UInt8) : -9223372036854775808 ≤ (parseV t).1 ∧ (parseV t).1 ≤ 9223372036854775807 := by
  by_cases h : (parseV t).2 = 0
  · have := (parse_canon (s := t) (n := (parseV t).1) (Prod.ext rfl h)).2
    omega
  · rw [parse_zero h]; decide

/-! ### The laws of the reading -/

structure Inv (k : Int) (a : PS) : Prop where
  code : a.c.code = k
  la : -1 ≤ a.la ∧ a.la < 6
  has : 0 ≤ a.c.has ∧ a.c.has ≤ 63
  sub : andNot a.c.has (may k) = 0
  hi : ∀ v : Int, 0 ≤ v → a.la < v → v < 6 → bit a.c.has v = 0
  zero : ∀ v : Int, 0 ≤ v → v < 6 → bit a.c.has v = 0 → a.c.num v = 0
  ou : a.ou = (a.lg || !rest a.c 6)
  nums : numsOk a.c
theorem ix_lt6 (b : UInt8) : Lib.indexByte letters b < 6 ∧ -1 ≤ Lib.indexByte letters b := by
  refine ⟨?_, Lib.indexByte_ge _ _⟩
  unfold letters
  simp only [ix_cons]
  have e : Lib.indexByte [] b = -1 := rfl
  rw [e]
  (repeat' split) <;> omega
theorem ltr_lt (p : List UInt8) : ltr p < 6 ∧ -1 ≤ ltr p := by
  cases p with
  | nil => decide
  | cons b t => exact ix_lt6 b
theorem bit_zero_all : ∀ v : Fin 6, bit 0 v.val = 0 := by decide +kernel
theorem bit_zero {v : Int} (v0 : 0 ≤ v) (v1 : v < 6) : bit 0 v = 0 := by
  have := bit_zero_all ⟨v.toNat, by omega⟩
  simp only at this
  rw [show ((v.toNat : Nat) : Int) = v by omega] at this
  exact this
theorem num_start (k v : Int) : C.num ⟨k, 0, 0, 0, 0, 0, 0, 0⟩ v = 0 := by
  unfold C.num
  (repeat' split) <;> rfl
theorem inv_start (k : Int) : Inv k (startP k) := by
  have hm : andNot 0 (may k) = 0 := by
    have := may_in k
    simp only [List.mem_cons, List.not_mem_nil, or_false] at this
    rcases this with h | h | h | h <;> rw [h] <;> decide +kernel
  refine ⟨rfl, (show (-1 : Int) ≤ -1 ∧ (-1 : Int) < 6 by decide), (show (0 : Int) ≤ 0 ∧ (0 : Int) ≤ 63 by decide), hm, fun v v0 _ v1 => bit_zero v0 v1, fun v v0 v1 _ => num_start k v, ?_, fun v v0 v1 => ?_⟩
  · have : rest (startP k).c 6 = true := (rest_iff _).2 fun i i0 i1 => by
      unfold okW
      have e : bit (startP k).c.has i = 0 := bit_zero i0 i1
      rw [if_pos e]
      have : (startP k).c.num i = 0 := num_start k i
      rw [this]; rfl
    rw [this]; rfl
  · have : (startP k).c.num v = 0 := num_start k v
    rw [this]; decide
theorem step_ok {m la : Int} {p : List UInt8} (h : stepOk m la p = true) : la < ltr p ∧ bit m (ltr p) ≠ 0 ∧ numB (p.drop 1) = true := by
  simp only [stepOk, Bool.and_eq_true, decide_eq_true_eq, Bool.not_eq_true', beq_eq_false_iff_ne] at h
  exact ⟨h.1, h.2.1, h.2.2⟩
theorem inv_step {k : Int} {a : PS} {p : List UInt8} (h : Inv k a) (hs : stepOk (may k) a.la p = true) : Inv k (pstep k a p) := by
  obtain ⟨s1, s2, s3⟩ := step_ok hs
  have hw := ltr_lt p
  have hla := h.la
  have w0 : 0 ≤ ltr p := by omega
  obtain ⟨o1, o2⟩ := orB_at h.has.1 h.has.2 w0 hw.1
  have hb : bit a.c.has (ltr p) = 0 := h.hi _ w0 s1 hw.1
  refine ⟨h.code, ⟨hw.2, hw.1⟩, o1, orB_may h.has.1 h.has.2 w0 hw.1 h.sub s2, fun v v0 v1 v2 => ?_, fun v v0 v1 v2 => ?_, ?_, fun v v0 v1 => ?_⟩
  · have v1 : ltr p < v := v1
    have e := o2 v v0 v2
    rw [if_neg (by omega)] at e
    exact e.trans (h.hi v v0 (by omega) v2)
  · have v2 : bit (orB a.c.has (ltr p)) v = 0 := v2
    rw [o2 v v0 v1] at v2
    split at v2
    · cases v2
    · rename_i ne
      have e := num_put a.c (ltr p) (pv p).1 v0 v1
      rw [if_neg ne] at e
      exact e.trans (h.zero v v0 v1 v2)
  · have key : rest (a.c.put (ltr p) (pv p).1) 6 = (rest a.c 6 && rangedB k (ltr p) (pv p).1) := by
      rw [Bool.eq_iff_iff, Bool.and_eq_true, rest_iff, rest_iff]
      have at_w : okW (a.c.put (ltr p) (pv p).1) (ltr p) = rangedB k (ltr p) (pv p).1 := by
        unfold okW
        have e1 : bit (a.c.put (ltr p) (pv p).1).has (ltr p) = 1 := by
          have := o2 (ltr p) w0 hw.1
          rw [if_pos rfl] at this; exact this
        have e2 : (a.c.put (ltr p) (pv p).1).num (ltr p) = (pv p).1 := by rw [num_put _ _ _ w0 hw.1, if_pos rfl]
        have e3 : (a.c.put (ltr p) (pv p).1).code = k := h.code
        rw [e1, e2, e3, if_neg (by decide), rangedB_eq k _ w0 hw.1]
      have at_v : ∀ v, 0 ≤ v → v < 6 → v ≠ ltr p → okW (a.c.put (ltr p) (pv p).1) v = okW a.c v := by
        intro v v0 v1 ne
        unfold okW
        have e1 : bit (a.c.put (ltr p) (pv p).1).has v = bit a.c.has v := by
          have := o2 v v0 v1
          rw [if_neg ne] at this; exact this
        have e2 : (a.c.put (ltr p) (pv p).1).num v = a.c.num v := by rw [num_put _ _ _ v0 v1, if_neg ne]
        have e3 : (a.c.put (ltr p) (pv p).1).code = a.c.code := rfl
        rw [e1, e2, e3]
      constructor
      · intro q
        refine ⟨fun v v0 v1 => ?_, by rw [← at_w]; exact q _ w0 hw.1⟩
        by_cases ne : v = ltr p
        · subst ne
          unfold okW
          rw [if_pos hb, h.zero _ w0 hw.1 hb]; rfl
        · rw [← at_v v v0 v1 ne]; exact q v v0 v1
      · rintro ⟨q1, q2⟩ v v0 v1
        by_cases ne : v = ltr p
        · subst ne; rw [at_w]; exact q2
        · rw [at_v v v0 v1 ne]; exact q1 v v0 v1
    show (a.ou || ((pv p).2 != 0 || !rangedB k (ltr p) (pv p).1)) = ((a.lg || (pv p).2 != 0) || !rest (a.c.put (ltr p) (pv p).1) 6)
    rw [key, h.ou]
    cases a.lg <;> cases ((pv p).2 != 0) <;> cases rest a.c 6 <;> cases rangedB k (ltr p) (pv p).1 <;> rfl
  · have e := num_put a.c (ltr p) (pv p).1 v0 v1
    show _ ≤ (a.c.put (ltr p) (pv p).1).num v ∧ (a.c.put (ltr p) (pv p).1).num v ≤ _
    rw [e]
    split
    · exact parse_range _
    · exact h.nums v v0 v1
theorem run_inv {k : Int} : ∀ {ps : List (List UInt8)} {a b : PS}, Inv k a → run k ps a = some b → Inv k b
  | [], a, b, h, hr => by injection hr with hr; subst hr; exact h
  | p :: ps, a, b, h, hr => by
    unfold run at hr
    split at hr
    · rename_i hs
      exact run_inv (inv_step h hs) hr
    · cases hr

theorem pre_eq {c : C} (h1 : -9223372036854775808 ≤ c.has) (h2 : c.has ≤ 9223372036854775807) : c.pre = c.preR := by
  rw [Bool.eq_iff_iff]
  have hm : may c.code = 0 ∨ may c.code = 23 ∨ may c.code = 31 ∨ may c.code = 32 := by
    unfold may; (repeat' split) <;> simp
  have hmay := andNot_zero h1 h2 (m := may c.code) (by omega) (by omega)
  simp only [C.pre, C.preR, Bool.and_eq_true, Bool.or_eq_true, Bool.not_eq_true', beq_iff_eq, beq_eq_false_iff_ne, decide_eq_true_eq, Bool.and_eq_false_iff, Bool.not_eq_false']
  have ha : allW c.code = true ↔ (oneS c.code ∨ none0 c.code) := by simp [allW]
  have hs : may c.code = 32 ↔ oneS c.code := by
    unfold may oneS; (repeat' split) <;> omega
  have hn : none0 c.code → may c.code = 0 := by
    intro hn; unfold none0 at hn; unfold may oneS; (repeat' split) <;> omega
  constructor
  · rintro ⟨a, b, d⟩
    refine ⟨a, (hmay b).1, b, ?_⟩
    by_cases h32 : may c.code = 32
    · right
      rcases d with d | d
      · exact absurd (ha.2 (.inl (hs.1 h32))) (by rw [d]; simp)
      · rw [d, h32]
    · exact .inl h32
  · rintro ⟨a, _, b, d⟩
    refine ⟨a, b, ?_⟩
    by_cases hw : allW c.code = true
    · right
      rcases ha.1 hw with h | h
      · have := hs.2 h
        rcases d with d | d
        · exact absurd this d
        · rw [this, d]
      · rw [hn h]; exact (hmay b).2 (hn h)
    · exact .inl (by simpa using hw)
theorem end_eq {k : Int} (hk : okC k = true) {a : PS} (h : Inv k a) : endP k a = endR k a := by
  have hh := h.has
  have hp := pre_eq (c := a.c) (by omega) (by omega)
  have hc := h.code
  have h1 : (allW k && !(a.c.has == may k)) = !(!(may k == 32) || a.c.has == 32) := by
    unfold C.pre C.preR at hp
    rw [hc, hk, h.sub, decide_eq_true hh.1] at hp
    simp only [Bool.true_and, show ((0 : Int) == 0) = true from rfl] at hp
    cases h3 : (allW k && !(a.c.has == may k)) <;> cases h4 : (!(may k == 32) || a.c.has == 32) <;> simp_all
  unfold endP endR
  rw [h1]
  split
  · rfl
  · rename_i hq
    have hv : a.c.valid = rest a.c 6 := by
      have : a.c.pre = true := by
        unfold C.pre
        rw [hc, hk, h.sub]
        have : (allW k && !(a.c.has == may k)) = false := by rw [h1]; simpa using hq
        rw [this]; rfl
      unfold C.valid
      rw [this, Bool.true_and]
    rw [hv, ← h.ou]
theorem parse_eq (s : List UInt8) : parseC s = parseRC s := by
  unfold parseC parseRC
  split
  · rfl
  · split
    · rfl
    · rename_i h
      have hk : okC (codeV (hp s)).1 = true := by
        rcases code_ok (hp s) with e | e | ⟨k, e, hk⟩
        · rw [e] at h; exact absurd (by decide) h
        · rw [e] at h; exact absurd (by decide) h
        · rw [e]; exact hk
      cases hr : run (codeV (hp s)).1 ((pieces 32 s).drop 1) (startP (codeV (hp s)).1) with
      | none => rfl
      | some a => exact end_eq hk (run_inv (inv_start _) hr)
end Go.Proofs.YtkmohnciiincmaaDoor
