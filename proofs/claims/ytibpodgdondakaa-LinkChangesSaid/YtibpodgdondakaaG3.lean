/-
  G3: the small loops of the link: the exclusive or of a text, the bytes that may be sent, where a byte is.
-/
import Derived.Test.YtibpodgdondakaaG2
set_option linter.unusedSimpArgs false
set_option linter.unusedVariables false
set_option maxRecDepth 100000
namespace Go.Proofs.Ytibpodgdondakaa
open Go.Sx

theorem small_iff {s : List UInt8} : small s = true ↔ (s.length : Int) ≤ 100000 := by simp [small]

theorem bt_get {s : List UInt8} {i : Int} (h0 : 0 ≤ i) (h : i < s.length) : ∃ b, s[i.toNat]? = some b ∧ bt s i = b.toNat := by
  have hl : i.toNat < s.length := by omega
  refine ⟨s[i.toNat], List.getElem?_eq_getElem hl, ?_⟩
  unfold bt
  rw [List.getD_eq_getElem?_getD, List.getElem?_eq_getElem hl]; rfl
theorem bt_drop {s : List UInt8} {i : Int} (h0 : 0 ≤ i) (h : i < s.length) : ∃ b, s.drop i.toNat = b :: s.drop (i + 1).toNat ∧ bt s i = b.toNat := by
  obtain ⟨b, h1, h2⟩ := bt_get h0 h
  have hl : i.toNat < s.length := by omega
  refine ⟨b, ?_, h2⟩
  rw [List.drop_eq_getElem_cons hl, show (i + 1).toNat = i.toNat + 1 by omega]
  rw [List.getElem?_eq_getElem hl] at h1
  injection h1 with h1
  rw [h1]

/-! ### Exclusive or -/

def xorL (x : UInt8) (l : List UInt8) : UInt8 := l.foldl (fun a b => a ^^^ b) x
def xr (s : List UInt8) : Int := (xorL 0 s).toNat

theorem ofInt8 (a : UInt8) : BitVec.ofInt 8 (a.toNat : Int) = a.toBitVec := by
  apply BitVec.eq_of_toNat_eq
  rw [BitVec.toNat_ofInt]
  have := a.toNat_lt
  have h2 : a.toBitVec.toNat = a.toNat := rfl
  rw [h2]
  omega
theorem u8_of (n : Nat) (h : n < 256) : IntKind.u8.wrap (n : Int) = n := by
  have h3 : IntKind.wrap .u8 (n : Int) = if false && decide ((n : Int) % 256 ≥ 128) then (n : Int) % 256 - 256 else (n : Int) % 256 := rfl
  rw [h3]
  simp only [Bool.false_and, Bool.false_eq_true, if_false]
  omega
theorem xor8 (a b : UInt8) : IntKind.u8.wrap ↑(BitVec.ofInt 8 (a.toNat : Int) ^^^ BitVec.ofInt 8 (b.toNat : Int)).toNat = ((a ^^^ b).toNat : Int) := by
  have e : (BitVec.ofInt 8 (a.toNat : Int) ^^^ BitVec.ofInt 8 (b.toNat : Int)).toNat = (a ^^^ b).toNat := by
    have := ofInt8 a
    have := ofInt8 b
    show (BitVec.ofInt 8 (a.toNat : Int) ^^^ BitVec.ofInt 8 (b.toNat : Int)).toNat = (a ^^^ b).toNat
    rw [ofInt8 a, ofInt8 b]; rfl
  rw [e]
  exact u8_of _ (a ^^^ b).toNat_lt
theorem xor64 (a b : UInt8) : IntKind.i64.wrap ↑(BitVec.ofInt 64 (a.toNat : Int) ^^^ BitVec.ofInt 64 (IntKind.i64.wrap (b.toNat : Int))).toNat = ((a ^^^ b).toNat : Int) := by
  have ha := a.toNat_lt
  have hb := b.toNat_lt
  rw [wrap64 (x := (b.toNat : Int)) (by omega) (by omega)]
  have n1 : (BitVec.ofInt 64 (a.toNat : Int)).toNat = a.toNat := by rw [BitVec.toNat_ofInt]; omega
  have n2 : (BitVec.ofInt 64 (b.toNat : Int)).toNat = b.toNat := by rw [BitVec.toNat_ofInt]; omega
  have e : (BitVec.ofInt 64 (a.toNat : Int) ^^^ BitVec.ofInt 64 (b.toNat : Int)).toNat = (a ^^^ b).toNat := by
    show (BitVec.ofInt 64 (a.toNat : Int) ^^^ BitVec.ofInt 64 (b.toNat : Int)).toNat = (a ^^^ b).toNat
    rw [BitVec.toNat_xor, n1, n2, UInt8.toNat_xor]
  rw [e]
  have := (a ^^^ b).toNat_lt
  exact wrap64 (by omega) (by omega)

structure SX where
  x : UInt8
  i : Int
def SX.inv (s : List UInt8) (a : SX) : Prop := 0 ≤ a.i ∧ a.i ≤ s.length ∧ xorL 0 s = xorL a.x (s.drop a.i.toNat)

theorem xor_loop (s : List UInt8) (hs : small s = true) : ∀ a : SX, a.inv s → RunsR Try.prog (fnOf Try.prog 48) (I64 (xr s)) (loopOf Try.prog 48 0) (slotsS 18 [(0, .str s), (3, .int .u8 a.x.toNat), (6, I64 s.length), (7, I64 a.i)]) [] := by
  rw [small_iff] at hs
  refine runsR_of (hK (l := []) trivial) (n := 1000) (hint := .unit) rfl (fun a : SX => a.inv s) (fun a => ((s.length : Int) - a.i).toNat) (keepS 18 [0, 3, 6, 7]) (fun _ => loopOf Try.prog 48 0) (fun a => slotsS 18 [(0, .str s), (3, .int .u8 a.x.toNat), (6, I64 s.length), (7, I64 a.i)]) (fun _ => []) (fun _ => xor1_p) fun a ha => ?_
  obtain ⟨x, i⟩ := a
  obtain ⟨h0, hl, hx⟩ := ha
  dsimp only at h0 hl hx ⊢
  rw [xor1]
  unfold xor1_t
  simp only [Tree.holds, decide_eq_true_eq, decide_eq_false_iff_not, Bool.and_eq_true]
  refine ⟨fun h => ⟨⟨h0, h⟩, slotsS_len _ _, .inl ?_⟩, fun h => ?_⟩
  · obtain ⟨b, h1, h2⟩ := bt_drop h0 h
    rw [h2, xor8, wrap64 (by omega) (by omega)]
    refine ⟨⟨x ^^^ b, i + 1⟩, ⟨by dsimp only; omega, by dsimp only; omega, ?_⟩, by dsimp only; omega, by trivial, rfl, by trivial⟩
    dsimp only
    rw [hx, h1]; rfl
  · show I64 (IntKind.i64.wrap x.toNat) = I64 (xr s)
    have : s.drop i.toNat = [] := List.drop_eq_nil_of_le (by omega)
    rw [this] at hx
    have hx := congrArg (fun u : UInt8 => (u.toNat : Int)) hx
    have hb := x.toNat_lt
    rw [wrap64 (by omega) (by omega)]
    exact congrArg I64 hx.symm
theorem s_xor (s : List UInt8) (hs : small s = true) : SCall Try.prog 48 [.str s] (I64 (xr s)) := by
  refine scallR_loops rfl rfl (by kernel_rfl) (runsR_seg (hK (l := []) trivial) (n := 1000) (hint := .unit) (keep := keepS 18 [0, 3, 6, 7]) (p := xor0_p) (boxes := []) rfl ?_)
  have e := xor0 s
  unfold startS codeS at e
  erw [e]
  exact ⟨slotsS_len _ _, xor_loop s hs ⟨0, 0⟩ ⟨by dsimp only; omega, by dsimp only; omega, rfl⟩⟩

theorem xorR_loop (s : List UInt8) (hs : small s = true) : ∀ a : SX, a.inv s → RunsR Try.prog (fnOf Try.prog 52) (I64 (xr s)) (loopOf Try.prog 52 0) (slotsS 18 [(0, .str s), (3, I64 a.x.toNat), (4, I64 a.i)]) [] := by
  rw [small_iff] at hs
  refine runsR_of (hK (l := []) trivial) (n := 1000) (hint := .unit) rfl (fun a : SX => a.inv s) (fun a => ((s.length : Int) - a.i).toNat) (keepS 18 [0, 3, 4]) (fun _ => loopOf Try.prog 52 0) (fun a => slotsS 18 [(0, .str s), (3, I64 a.x.toNat), (4, I64 a.i)]) (fun _ => []) (fun _ => xorR1_p) fun a ha => ?_
  obtain ⟨x, i⟩ := a
  obtain ⟨h0, hl, hx⟩ := ha
  dsimp only at h0 hl hx ⊢
  rw [xorR1]
  unfold xorR1_t
  simp only [Tree.holds, decide_eq_true_eq, decide_eq_false_iff_not, Bool.and_eq_true]
  refine ⟨fun h => ⟨⟨h0, h⟩, slotsS_len _ _, .inl ?_⟩, fun h => ?_⟩
  · obtain ⟨b, h1, h2⟩ := bt_drop h0 h
    rw [h2, xor64, wrap64 (by omega) (by omega)]
    refine ⟨⟨x ^^^ b, i + 1⟩, ⟨by dsimp only; omega, by dsimp only; omega, ?_⟩, by dsimp only; omega, by trivial, rfl, by trivial⟩
    dsimp only
    rw [hx, h1]; rfl
  · show I64 (x.toNat : Int) = I64 (xr s)
    have : s.drop i.toNat = [] := List.drop_eq_nil_of_le (by omega)
    rw [this] at hx
    have hx := congrArg (fun u : UInt8 => (u.toNat : Int)) hx
    exact congrArg I64 hx.symm
theorem s_xorR (s : List UInt8) (hs : small s = true) : SCall Try.prog 52 [.str s] (I64 (xr s)) := by
  refine scallR_loops rfl rfl (by kernel_rfl) (runsR_seg (hK (l := []) trivial) (n := 1000) (hint := .unit) (keep := keepS 18 [0, 3, 4]) (p := xorR0_p) (boxes := []) rfl ?_)
  have e := xorR0 s
  unfold startS codeS at e
  erw [e]
  exact ⟨slotsS_len _ _, xorR_loop s hs ⟨0, 0⟩ ⟨by dsimp only; omega, by dsimp only; omega, rfl⟩⟩

/-! ### Bytes that may be sent -/

def okB (b : UInt8) : Bool := !decide ((b.toNat : Int) < 32) && (!decide ((b.toNat : Int) > 126) && !((b.toNat : Int) == 42))
def plainB (s : List UInt8) : Bool := s.all okB

theorem plain_loop (s : List UInt8) (hs : small s = true) (v : Bool) : ∀ i : Int, (0 ≤ i ∧ i ≤ s.length ∧ v = plainB (s.drop i.toNat)) → RunsR Try.prog (fnOf Try.prog 37) (.bool v) (loopOf Try.prog 37 0) (slotsS 26 [(0, .str s), (5, I64 s.length), (6, I64 i)]) [] := by
  rw [small_iff] at hs
  refine runsR_of (hK (l := []) trivial) (n := 1000) (hint := .unit) rfl (fun i : Int => 0 ≤ i ∧ i ≤ s.length ∧ v = plainB (s.drop i.toNat)) (fun i => ((s.length : Int) - i).toNat) (keepS 26 [0, 5, 6]) (fun _ => loopOf Try.prog 37 0) (fun i => slotsS 26 [(0, .str s), (5, I64 s.length), (6, I64 i)]) (fun _ => []) (fun _ => plain1_p) fun i hi => ?_
  obtain ⟨h0, hl, hv⟩ := hi
  rw [plain1]
  unfold plain1_t
  simp only [Tree.holds, decide_eq_true_eq, decide_eq_false_iff_not, Bool.and_eq_true, beq_iff_eq, beq_eq_false_iff_ne]
  refine ⟨fun h => ?_, fun h => ?_⟩
  · obtain ⟨b, h1, h2⟩ := bt_drop h0 h
    rw [h1] at hv
    rw [h2]
    have hv : v = (okB b && plainB (s.drop (i + 1).toNat)) := hv
    have bad : okB b = false → SV.bool false = SV.bool v := fun hb => by rw [hv, hb]; rfl
    refine ⟨⟨h0, h⟩, fun c1 => bad ?_, fun c1 => ⟨⟨h0, h⟩, fun c2 => bad ?_, fun c2 => ⟨⟨h0, h⟩, fun c3 => bad ?_, fun c3 => ⟨slotsS_len _ _, .inl ?_⟩⟩⟩⟩
    · simp [okB, c1]
    · simp [okB, c2]
    · simp [okB, c3]
    · rw [wrap64 (by omega) (by omega)]
      refine ⟨i + 1, ⟨by omega, by omega, ?_⟩, by omega, by trivial, rfl, by trivial⟩
      rw [hv]
      have : okB b = true := by simp only [okB, c1, c2, c3, decide_false, Bool.not_false, Bool.true_and]; simpa using c3
      rw [this, Bool.true_and]
  · show SV.bool true = SV.bool v
    have : s.drop i.toNat = [] := List.drop_eq_nil_of_le (by omega)
    rw [hv, this]; rfl
theorem s_plain (s : List UInt8) (hs : small s = true) : SCall Try.prog 37 [.str s] (.bool (plainB s)) := by
  refine scallR_loops rfl rfl (by kernel_rfl) (runsR_seg (hK (l := []) trivial) (n := 1000) (hint := .unit) (keep := keepS 26 [0, 5, 6]) (p := plain0_p) (boxes := []) rfl ?_)
  have e := plain0 s
  unfold startS codeS at e
  erw [e]
  exact ⟨slotsS_len _ _, plain_loop s hs _ 0 ⟨by omega, by omega, rfl⟩⟩

theorem plainR_loop (s : List UInt8) (hs : small s = true) (v : Bool) : ∀ i : Int, (0 ≤ i ∧ i ≤ s.length ∧ v = plainB (s.drop i.toNat)) → RunsR Try.prog (fnOf Try.prog 40) (.bool v) (loopOf Try.prog 40 0) (slotsS 26 [(0, .str s), (3, I64 i)]) [] := by
  rw [small_iff] at hs
  refine runsR_of (hK (l := []) trivial) (n := 1000) (hint := .unit) rfl (fun i : Int => 0 ≤ i ∧ i ≤ s.length ∧ v = plainB (s.drop i.toNat)) (fun i => ((s.length : Int) - i).toNat) (keepS 26 [0, 3]) (fun _ => loopOf Try.prog 40 0) (fun i => slotsS 26 [(0, .str s), (3, I64 i)]) (fun _ => []) (fun _ => plainR1_p) fun i hi => ?_
  obtain ⟨h0, hl, hv⟩ := hi
  rw [plainR1]
  unfold plainR1_t
  simp only [Tree.holds, decide_eq_true_eq, decide_eq_false_iff_not, Bool.and_eq_true, beq_iff_eq, beq_eq_false_iff_ne]
  refine ⟨fun h => ?_, fun h => ?_⟩
  · obtain ⟨b, h1, h2⟩ := bt_drop h0 h
    rw [h1] at hv
    rw [h2]
    have hv : v = (okB b && plainB (s.drop (i + 1).toNat)) := hv
    have bad : okB b = false → SV.bool false = SV.bool v := fun hb => by rw [hv, hb]; rfl
    refine ⟨⟨h0, h⟩, fun c1 => bad ?_, fun c1 => ⟨⟨h0, h⟩, fun c2 => bad ?_, fun c2 => ⟨⟨h0, h⟩, fun c3 => bad ?_, fun c3 => ⟨slotsS_len _ _, .inl ?_⟩⟩⟩⟩
    · simp [okB, c1]
    · simp [okB, c2]
    · simp [okB, c3]
    · rw [wrap64 (by omega) (by omega)]
      refine ⟨i + 1, ⟨by omega, by omega, ?_⟩, by omega, by trivial, rfl, by trivial⟩
      rw [hv]
      have : okB b = true := by simp only [okB, c1, c2, c3, decide_false, Bool.not_false, Bool.true_and]; simpa using c3
      rw [this, Bool.true_and]
  · show SV.bool true = SV.bool v
    have : s.drop i.toNat = [] := List.drop_eq_nil_of_le (by omega)
    rw [hv, this]; rfl
theorem s_plainR (s : List UInt8) (hs : small s = true) : SCall Try.prog 40 [.str s] (.bool (plainB s)) := by
  refine scallR_loops rfl rfl (by kernel_rfl) (runsR_seg (hK (l := []) trivial) (n := 1000) (hint := .unit) (keep := keepS 26 [0, 3]) (p := plainR0_p) (boxes := []) rfl ?_)
  have e := plainR0 s
  unfold startS codeS at e
  erw [e]
  exact ⟨slotsS_len _ _, plainR_loop s hs _ 0 ⟨by omega, by omega, rfl⟩⟩

/-! ### Where a byte is -/

theorem ix_cons (b : UInt8) (l : List UInt8) (c : UInt8) : ix (b :: l) c = if b = c then 0 else if ix l c = -1 then -1 else ix l c + 1 := by
  unfold ix
  rw [Lib.indexByte]
  by_cases h : b = c
  · simp [h]
  · simp [h]
theorem ix_nil (c : UInt8) : ix [] c = -1 := rfl
theorem ix_ge (s : List UInt8) (c : UInt8) : -1 ≤ ix s c := Lib.indexByte_ge s c
theorem ix_lt (s : List UInt8) (c : UInt8) : ix s c < s.length := by
  induction s with
  | nil => rw [ix_nil]; decide
  | cons b l ih =>
    rw [ix_cons]
    have := ix_ge l c
    simp only [List.length_cons]
    split
    · omega
    · split <;> omega

theorem find_loop (s : List UInt8) (hs : small s = true) (c : UInt8) (v : Int) : ∀ i : Int, (0 ≤ i ∧ i ≤ s.length ∧ v = (if ix (s.drop i.toNat) c = -1 then -1 else ix (s.drop i.toNat) c + i)) → RunsR Try.prog (fnOf Try.prog 50) (I64 v) (loopOf Try.prog 50 0) (slotsS 18 [(0, .str s), (1, .int .u8 c.toNat), (5, I64 i)]) [] := by
  rw [small_iff] at hs
  refine runsR_of (hK (l := []) trivial) (n := 1000) (hint := .unit) rfl (fun i : Int => 0 ≤ i ∧ i ≤ s.length ∧ v = (if ix (s.drop i.toNat) c = -1 then -1 else ix (s.drop i.toNat) c + i)) (fun i => ((s.length : Int) - i).toNat) (keepS 18 [0, 1, 5]) (fun _ => loopOf Try.prog 50 0) (fun i => slotsS 18 [(0, .str s), (1, .int .u8 c.toNat), (5, I64 i)]) (fun _ => []) (fun _ => find1_p) fun i hi => ?_
  obtain ⟨h0, hl, hv⟩ := hi
  rw [find1]
  unfold find1_t
  simp only [Tree.holds, decide_eq_true_eq, decide_eq_false_iff_not, Bool.and_eq_true, beq_iff_eq, beq_eq_false_iff_ne]
  refine ⟨fun h => ?_, fun h => ?_⟩
  · obtain ⟨b, h1, h2⟩ := bt_drop h0 h
    rw [h1, ix_cons] at hv
    rw [h2]
    have eb : (b.toNat : Int) = (c.toNat : Int) ↔ b = c := ⟨fun h => UInt8.toNat_inj.1 (by omega), fun h => by rw [h]⟩
    refine ⟨⟨h0, h⟩, fun c1 => ?_, fun c1 => ⟨slotsS_len _ _, .inl ?_⟩⟩
    · show I64 i = I64 v
      rw [if_pos (eb.1 c1)] at hv
      rw [hv]; simp
    · rw [wrap64 (by omega) (by omega)]
      refine ⟨i + 1, ⟨by omega, by omega, ?_⟩, by omega, by trivial, rfl, by trivial⟩
      rw [if_neg (fun e => c1 (eb.2 e))] at hv
      rw [hv]
      have := ix_ge (s.drop (i + 1).toNat) c
      by_cases hm : ix (s.drop (i + 1).toNat) c = -1
      · simp [hm]
      · simp only [hm, if_false]
        rw [if_neg (by omega)]; omega
  · show I64 (-1) = I64 v
    have : s.drop i.toNat = [] := List.drop_eq_nil_of_le (by omega)
    rw [this, ix_nil] at hv
    rw [hv]; rfl
theorem s_find (s : List UInt8) (hs : small s = true) (c : UInt8) : SCall Try.prog 50 [.str s, .int .u8 c.toNat] (I64 (ix s c)) := by
  refine scallR_loops rfl rfl (by kernel_rfl) (runsR_seg (hK (l := []) trivial) (n := 1000) (hint := .unit) (keep := keepS 18 [0, 1, 5]) (p := find0_p) (boxes := []) rfl ?_)
  have e := find0 s c.toNat
  unfold startS codeS at e
  erw [e]
  refine ⟨slotsS_len _ _, find_loop s hs c _ 0 ⟨by omega, by omega, ?_⟩⟩
  simp only [Int.toNat_zero, List.drop_zero, Int.add_zero]
  split <;> omega

def fXor : Fact := factL 48 fun s => .leaf (I64 (xr s))
def fXorR : Fact := factL 52 fun s => .leaf (I64 (xr s))
def fPlain : Fact := factL 37 fun s => .leaf (.bool (plainB s))
def fPlainR : Fact := factL 40 fun s => .leaf (.bool (plainB s))
/-- The byte itself is known. -/
def fFind (c : UInt8) : Fact := ⟨50, fun args => match args with
  | [.str a, .int .u8 n] => some (.req (small a) (.node (n == 42) (.leaf (I64 (ix a 42))) (.node (n == 32) (.leaf (I64 (ix a 32))) (.fail 0))))
  | _ => none⟩
theorem o_xor : fXor.ok Try.prog := factL_ok s_xor
theorem o_xorR : fXorR.ok Try.prog := factL_ok s_xorR
theorem o_plain : fPlain.ok Try.prog := factL_ok s_plain
theorem o_plainR : fPlainR.ok Try.prog := factL_ok s_plainR
theorem o_find (c : UInt8) : (fFind c).ok Try.prog := fun args t ht => by
  simp only [fFind] at ht
  split at ht
  · rename_i a n
    injection ht with ht; subst ht
    refine fun hs => ⟨fun h => ?_, fun h => ⟨fun h2 => ?_, fun h2 => trivial⟩⟩
    · rw [beq_iff_eq] at h; subst h
      exact s_find a hs 42
    · rw [beq_iff_eq] at h2; subst h2
      exact s_find a hs 32
  · cases ht
end Go.Proofs.Ytibpodgdondakaa
