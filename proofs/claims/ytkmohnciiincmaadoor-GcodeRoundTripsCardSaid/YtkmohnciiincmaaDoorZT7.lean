/-
  GN: both Parse by their contracts.
  GO: commands are restored from their texts, and a text that is read is that of its command.
  GP: the two laws on reading. Written by gen.py.
  GcodeRoundTrips: the tied card, out of the contract. Written by dshell.py.
-/
import Derived.Test.YtkmohnciiincmaaDoorZT6
import Derived.Test.YtkmohnciiincmaaDoorZT5
import Derived.Test.YtkmohnciiincmaaDoorRows
import Derived.Test.YtkmohnciiincmaaDoorCards
import Derived.Test.YtkmohnciiincmaaDoorTie
import Derived.Test.YtkmohnciiincmaaDoorZT1
import Derived.OpenShut
import Derived.ShutString
import Derived.ChangeOld
import Derived.Below
import Derived.Lay
import Derived.SevenTiedAt
set_option linter.unusedSimpArgs false
set_option linter.unusedVariables false
set_option maxRecDepth 100000
namespace Go.Proofs.YtkmohnciiincmaaDoor
open Go.Sx

def prS (r : C × Int) : SV := .tuple [r.1.sv, I64 r.2]

/-! ### Pieces are short -/

theorem pieces_small (c : UInt8) : ∀ (s p : List UInt8), p ∈ pieces c s → p.length ≤ s.length
  | [], p, h => by
    have : p = [] := by simpa [pieces] using h
    subst this; exact Nat.le_refl _
  | b :: l, p, h => by
    unfold pieces at h
    split at h
    · rcases List.mem_cons.1 h with h | h
      · subst h; exact Nat.zero_le _
      · have := pieces_small c l p h
        simp only [List.length_cons]; omega
    · rcases List.mem_cons.1 h with h | h
      · subst h
        cases hp : pieces c l with
        | nil => exact absurd hp (pieces_ne c l)
        | cons x r =>
          have := pieces_small c l x (by rw [hp]; exact List.mem_cons_self)
          simp only [List.headD_cons, List.length_cons]; omega
      · have := pieces_small c l p (List.mem_of_mem_tail h)
        simp only [List.length_cons]; omega
theorem pieces_many (c : UInt8) : ∀ s : List UInt8, (pieces c s).length ≤ s.length + 1
  | [] => Nat.le_refl 1
  | b :: l => by
    have ih := pieces_many c l
    unfold pieces
    split
    · simp only [List.length_cons]; omega
    · rw [List.length_cons, List.length_tail, List.length_cons]; omega

theorem nth_get {l : List (List UInt8)} {i : Int} (h0 : 0 ≤ i) (h : i < l.length) : l.drop i.toNat = nth l i :: l.drop (i + 1).toNat ∧ nth l i ∈ l := by
  have hl : i.toNat < l.length := by omega
  have e : nth l i = l[i.toNat] := by
    have : ∀ d : List UInt8, l.getD i.toNat d = l[i.toNat] := fun d => by rw [List.getD_eq_getElem?_getD, List.getElem?_eq_getElem hl]; rfl
    exact this _
  rw [List.drop_eq_getElem_cons hl, e, show (i + 1).toNat = i.toNat + 1 by omega]
  exact ⟨rfl, List.getElem_mem hl⟩
theorem ixw_ltr {p : List UInt8} (h : p ≠ []) : ixw p = ltr p := by
  cases p with
  | nil => exact absurd rfl h
  | cons b t =>
    unfold ixw ltr
    have : (((List.getD (b :: t) 0 0).toNat : Int)).toNat.toUInt8 = b := by
      show ((b.toNat : Int)).toNat.toUInt8 = b
      simp
    rw [this]

/-! ### The program's -/

structure PI where
  a : PS
  i : Int
def PI.inv (k : Int) (l : List (List UInt8)) (r : C × Int) (x : PI) : Prop := 0 ≤ x.i ∧ x.i ≤ l.length ∧ Inv k x.a ∧ r = resP k (run k (l.drop x.i.toNat) x.a)

theorem fsA : allOk Tryd.prog [fSplit, fCode, fWords, fIndex, fNumber, fNP, fField, fValid] := ⟨o_split, o_code, o_words, o_index, o_number, o_np, o_field, o_valid, trivial⟩
theorem put_cells {c : C} {w x : Int} : (c.put w x).cells = [I64 c.code, I64 (orB c.has w), I64 (if w = 0 then x else c.x), I64 (if w = 1 then x else c.y), I64 (if w = 2 then x else c.z), I64 (if w = 3 then x else c.e), I64 (if w = 4 then x else c.f), I64 (if w = 5 then x else c.s)] := rfl

theorem pa_loop (k : Int) (l : List (List UInt8)) (hl : (l.length : Int) ≤ 1000) (hsm : ∀ p ∈ l, small p = true) (r : C × Int) : ∀ x : PI, x.inv k l r → RunsR Tryd.prog (fnOf Tryd.prog 6) (prS r) (loopOf Tryd.prog 6 0) (slotsS 114 [(2, .ptr 0 0), (7, .ptr 1 0), (8, I64 (may k)), (9, .bool (allW k)), (11, I64 x.a.la), (12, .bool x.a.lg), (44, .list .str l), (45, I64 (l.length : Int)), (46, I64 x.i)]) [some (.cells [I64 0, I64 0, I64 0, I64 0, I64 0, I64 0, I64 0, I64 0]), some (.cells x.a.c.cells)] := by
  refine runsR_of (hK fsA) (n := 1000) (hint := .unit) rfl (fun x : PI => x.inv k l r) (fun x => (l.length - x.i).toNat) (keepS 114 [2, 7, 8, 9, 11, 12, 44, 45, 46]) (fun _ => loopOf Tryd.prog 6 0) (fun x => slotsS 114 [(2, .ptr 0 0), (7, .ptr 1 0), (8, I64 (may k)), (9, .bool (allW k)), (11, I64 x.a.la), (12, .bool x.a.lg), (44, .list .str l), (45, I64 (l.length : Int)), (46, I64 x.i)]) (fun x => [some (.cells [I64 0, I64 0, I64 0, I64 0, I64 0, I64 0, I64 0, I64 0]), some (.cells x.a.c.cells)]) (fun _ => pa1_p) fun x hx => ?_
  obtain ⟨a, i⟩ := x
  obtain ⟨h0, h1, hi, hr⟩ := hx
  dsimp only at h0 h1 hi hr ⊢
  rw [pa1]
  unfold pa1_t
  have hla := hi.la
  have eb : ∀ w : Int, IntKind.i64.wrap ↑(BitVec.ofInt 64 ((may k).fdiv (2 ^ min w.toNat 64)) &&& BitVec.ofInt 64 1).toNat = bit (may k) w := fun _ => rfl
  simp only [eb]
  refine ⟨fun h => ?_, fun h => ?_⟩
  · have h := of_decide_eq_true h
    obtain ⟨hd, hm⟩ := nth_get h0 h
    rw [hd] at hr
    have hsp := hsm _ hm
    generalize nth l i = p at *
    have hst : small (List.drop 1 p) = true := small_le (s := p) (by simp) hsp
    rw [wrap64 (by omega) (by omega)]
    have bad : stepOk (may k) a.la p = false → SV.tuple [SV.agg zeroC.cells, I64 5] = prS r := fun e => by
      rw [hr]
      unfold run
      rw [e]; rfl
    refine ⟨by simp; omega, fun c1 => ?_, fun c1 => ?_⟩
    · refine bad ?_
      have : p = [] := beq_iff_eq.1 c1
      subst this
      unfold stepOk
      rw [decide_eq_false (show ¬ a.la < ltr [] by show ¬ a.la < -1; omega)]; rfl
    have hne : p ≠ [] := by simpa using c1
    have hlen : 1 ≤ (p.length : Int) := by
      have : p.length ≠ 0 := fun c => hne (List.eq_nil_of_length_eq_zero c)
      omega
    rw [ixw_ltr hne]
    have hw := ltr_lt p
    refine ⟨by simp; omega, fun c2 => bad ?_, fun c2 => ?_⟩
    · have c2 := of_decide_eq_true c2
      unfold stepOk
      rw [decide_eq_false (show ¬ a.la < ltr p by omega)]; rfl
    have c2 := of_decide_eq_false c2
    refine ⟨by simp; omega, fun c3 => bad ?_, fun c3 => ⟨by simp; omega, fun c4 => bad ?_, fun c4 => ⟨by simp; omega, by simp; omega, hst, ?_⟩⟩⟩
    · unfold stepOk
      rw [c3]; simp
    · have c4 : numB (List.drop 1 p) = false := by simpa using c4
      unfold stepOk
      rw [c4]; simp
    have c4 : numB (List.drop 1 p) = true := by simpa using c4
    have hok : stepOk (may k) a.la p = true := by
      unfold stepOk
      rw [decide_eq_true (show a.la < ltr p by omega), c3, c4]; rfl
    have hgo : r = resP k (run k (l.drop (i + 1).toNat) (pstep k a p)) := by
      rw [hr, run, if_pos hok]
    have key : ∀ (cells : List SV) (b : Bool), cells = (a.c.put (ltr p) (pv p).1).cells → b = (a.lg || (pv p).2 != 0) →
        (slotsS 114 [(2, SV.ptr 0 0), (7, SV.ptr 1 0), (8, I64 (may k)), (9, SV.bool (allW k)), (11, I64 (ltr p)), (12, SV.bool b), (44, SV.list Ty.str l), (45, I64 (l.length : Int)), (46, I64 (i + 1))]).length = 114 ∧ ((∃ s' : PI, s'.inv k l r ∧ (l.length - s'.i).toNat < (l.length - i).toNat ∧ loopOf Tryd.prog 6 0 = loopOf Tryd.prog 6 0 ∧ slotsS 114 [(2, SV.ptr 0 0), (7, SV.ptr 1 0), (8, I64 (may k)), (9, SV.bool (allW k)), (11, I64 (ltr p)), (12, SV.bool b), (44, SV.list Ty.str l), (45, I64 (l.length : Int)), (46, I64 (i + 1))] = slotsS 114 [(2, .ptr 0 0), (7, .ptr 1 0), (8, I64 (may k)), (9, .bool (allW k)), (11, I64 s'.a.la), (12, .bool s'.a.lg), (44, .list .str l), (45, I64 (l.length : Int)), (46, I64 s'.i)] ∧ [some (Box.cells zeroC.cells), some (Box.cells cells)] = [some (.cells [I64 0, I64 0, I64 0, I64 0, I64 0, I64 0, I64 0, I64 0]), some (.cells s'.a.c.cells)]) ∨ RunsR Tryd.prog (fnOf Tryd.prog 6) (prS r) (loopOf Tryd.prog 6 0) (slotsS 114 [(2, SV.ptr 0 0), (7, SV.ptr 1 0), (8, I64 (may k)), (9, SV.bool (allW k)), (11, I64 (ltr p)), (12, SV.bool b), (44, SV.list Ty.str l), (45, I64 (l.length : Int)), (46, I64 (i + 1))]) [some (Box.cells zeroC.cells), some (Box.cells cells)]) := by
      intro cells b e1 e2
      subst e1 e2
      exact ⟨slotsS_len _ _, .inl ⟨⟨pstep k a p, i + 1⟩, ⟨by dsimp only; omega, by dsimp only; omega, inv_step hi hok, hgo⟩, by dsimp only; omega, rfl, rfl, rfl⟩⟩
    have e1 : a.lg = true → true = (a.lg || (pv p).2 != 0) := fun e => by rw [e]; rfl
    have e2 : a.lg = false → ((parseV (List.drop 1 p)).snd != 0) = (a.lg || (pv p).2 != 0) := fun e => by rw [e]; rfl
    refine ⟨fun c5 => ?_, fun c5 => ⟨fun c6 => ?_, fun c6 => ⟨fun c7 => ?_, fun c7 => ⟨fun c8 => ?_, fun c8 => ⟨fun c9 => ?_, fun c9 => ?_⟩⟩⟩⟩⟩
    · have c5 : ltr p = 0 := beq_iff_eq.1 c5
      refine ⟨fun q => key _ _ ?_ (e1 q), fun q => key _ _ ?_ (e2 q)⟩ <;> rw [put_cells, c5] <;> rfl
    · have c6 : ltr p = 1 := beq_iff_eq.1 c6
      refine ⟨fun q => key _ _ ?_ (e1 q), fun q => key _ _ ?_ (e2 q)⟩ <;> rw [put_cells, c6] <;> rfl
    · have c7 : ltr p = 2 := beq_iff_eq.1 c7
      refine ⟨fun q => key _ _ ?_ (e1 q), fun q => key _ _ ?_ (e2 q)⟩ <;> rw [put_cells, c7] <;> rfl
    · have c8 : ltr p = 3 := beq_iff_eq.1 c8
      refine ⟨fun q => key _ _ ?_ (e1 q), fun q => key _ _ ?_ (e2 q)⟩ <;> rw [put_cells, c8] <;> rfl
    · have c9 : ltr p = 4 := beq_iff_eq.1 c9
      refine ⟨fun q => key _ _ ?_ (e1 q), fun q => key _ _ ?_ (e2 q)⟩ <;> rw [put_cells, c9] <;> rfl
    · have c10 : ltr p = 5 := by
        have c5 : ¬ ltr p = 0 := by simpa using c5
        have c6 : ¬ ltr p = 1 := by simpa using c6
        have c7 : ¬ ltr p = 2 := by simpa using c7
        have c8 : ¬ ltr p = 3 := by simpa using c8
        have c9 : ¬ ltr p = 4 := by simpa using c9
        omega
      refine ⟨fun q => key _ _ ?_ (e1 q), fun q => key _ _ ?_ (e2 q)⟩ <;> rw [put_cells, c10] <;> rfl
  · have h := of_decide_eq_false h
    have : l.drop i.toNat = [] := List.drop_eq_nil_of_le (by omega)
    rw [this] at hr
    have hr : r = endP k a := hr
    unfold endP at hr
    refine ⟨fun c1 => ⟨fun c2 => ?_, fun c2 => ⟨fun c3 => ?_, fun c3 => ⟨fun c4 => ?_, fun c4 => ?_⟩⟩⟩, fun c1 => ⟨fun c3 => ?_, fun c3 => ⟨fun c4 => ?_, fun c4 => ?_⟩⟩⟩
    · have c2 : (a.c.has == may k) = false := by simpa using c2
      rw [c1, c2] at hr; rw [hr]; rfl
    · have c2 : (a.c.has == may k) = true := by simpa using c2
      rw [c1, c2, c3] at hr; rw [hr]; rfl
    · have c2 : (a.c.has == may k) = true := by simpa using c2
      have c4 : a.c.valid = false := by simpa using c4
      rw [c1, c2, c3, c4] at hr; rw [hr]; rfl
    · have c2 : (a.c.has == may k) = true := by simpa using c2
      have c4 : a.c.valid = true := by simpa using c4
      rw [c1, c2, c3, c4] at hr; rw [hr]; rfl
    · rw [c1, c3] at hr; rw [hr]; rfl
    · have c4 : a.c.valid = false := by simpa using c4
      rw [c1, c3, c4] at hr; rw [hr]; rfl
    · have c4 : a.c.valid = true := by simpa using c4
      rw [c1, c3, c4] at hr; rw [hr]; rfl

theorem hp_mem (s : List UInt8) : hp s ∈ pieces 32 s ∧ pieces 32 s = hp s :: (pieces 32 s).drop 1 := by
  unfold hp
  cases h : pieces 32 s with
  | nil => exact absurd h (pieces_ne 32 s)
  | cons x r => exact ⟨List.mem_cons_self, rfl⟩
theorem prS_data (r : C × Int) : (prS r).data = true := rfl
theorem s_parseC (s : List UInt8) (hs : small s = true) : SCall Tryd.prog 6 [.str s] (prS (parseC s)) := by
  refine scallR_loops rfl (prS_data _) (by kernel_rfl) (runsR_seg (hK fsA) (n := 1000) (hint := .unit) (keep := keepS 114 [2, 7, 8, 9, 11, 12, 44, 45, 46]) (p := pa0_p) (boxes := []) (prS_data _) ?_)
  have e := pa0 s
  unfold startS codeS at e
  erw [e]
  unfold pa0_t
  have hm := hp_mem s
  have hlen : (pieces 32 s).length ≠ 0 := fun c => pieces_ne 32 s (List.eq_nil_of_length_eq_zero c)
  have hsm : ∀ p ∈ pieces 32 s, small p = true := fun p hp => small_le (pieces_small 32 s p hp) hs
  refine ⟨fun h => ?_, fun h => ⟨rfl, hs, by simp; omega, hsm _ hm.1, fun h2 => ?_, fun h2 => ⟨by simp; omega, slotsS_len _ _, ?_⟩⟩⟩
  · have h := of_decide_eq_true h
    show _ = prS (parseC s)
    unfold parseC
    rw [if_pos (by omega)]; rfl
  · have h := of_decide_eq_false h
    have h2 : (codeV (hp s)).2 ≠ 0 := by simpa using h2
    show _ = prS (parseC s)
    unfold parseC
    rw [if_neg (by omega), if_pos h2]; rfl
  · have h := of_decide_eq_false h
    have h2 : (codeV (hp s)).2 = 0 := by simpa using h2
    have hmany := pieces_many 32 s
    refine pa_loop (codeV (hp s)).1 ((pieces 32 s).drop 1) (by rw [List.length_drop]; omega) (fun p hp => hsm p (List.mem_of_mem_drop hp)) (parseC s) ⟨startP (codeV (hp s)).1, 0⟩ ⟨Int.le_refl 0, by dsimp only; omega, inv_start _, ?_⟩
    unfold parseC
    rw [if_neg (by omega), if_neg (by simpa using h2)]; rfl

/-! ### The document's -/

def nums (c : C) : List Int := [c.x, c.y, c.z, c.e, c.f, c.s]
def onlyHas (c : C) : C := ⟨c.code, c.has, 0, 0, 0, 0, 0, 0⟩
def PI.invR (k : Int) (l : List (List UInt8)) (r : C × Int) (x : PI) : Prop := 0 ≤ x.i ∧ x.i ≤ l.length ∧ Inv k x.a ∧ r = resR k (run k (l.drop x.i.toNat) x.a)
theorem fsB : allOk Tryd.prog [fPieces, fCodeR, fLetter, fAllowed, fRP, fRanged, fComplete] := ⟨o_pieces, o_codeR, o_letter, o_allowed, o_rp, o_ranged, o_complete, trivial⟩
theorem nums_put (c : C) {w : Int} (x : Int) (w0 : 0 ≤ w) (w1 : w < 6) : nums (c.put w x) = (nums c).set w.toNat x := by
  have h : w = 0 ∨ w = 1 ∨ w = 2 ∨ w = 3 ∨ w = 4 ∨ w = 5 := by omega
  rcases h with rfl | rfl | rfl | rfl | rfl | rfl <;> rfl

theorem ra_loop (k : Int) (l : List (List UInt8)) (hl : (l.length : Int) ≤ 1000) (hsm : ∀ p ∈ l, small p = true) (r : C × Int) : ∀ x : PI, x.invR k l r → RunsR Tryd.prog (fnOf Tryd.prog 7) (prS r) (loopOf Tryd.prog 7 0) (slotsS 129 [(2, .ptr 0 0), (4, .list .str l), (5, I64 k), (7, .ptr 1 0), (8, .row 2), (9, I64 x.a.la), (10, .bool x.a.ou), (11, I64 x.i)]) [some (.cells [I64 0, I64 0, I64 0, I64 0, I64 0, I64 0, I64 0, I64 0]), some (.cells (onlyHas x.a.c).cells), some (.rows (.int .i64) (nums x.a.c))] := by
  refine runsR_of (hK fsB) (n := 1000) (hint := .unit) rfl (fun x : PI => x.invR k l r) (fun x => (l.length - x.i).toNat) (keepS 129 [2, 4, 5, 7, 8, 9, 10, 11]) (fun _ => loopOf Tryd.prog 7 0) (fun x => slotsS 129 [(2, .ptr 0 0), (4, .list .str l), (5, I64 k), (7, .ptr 1 0), (8, .row 2), (9, I64 x.a.la), (10, .bool x.a.ou), (11, I64 x.i)]) (fun x => [some (.cells [I64 0, I64 0, I64 0, I64 0, I64 0, I64 0, I64 0, I64 0]), some (.cells (onlyHas x.a.c).cells), some (.rows (.int .i64) (nums x.a.c))]) (fun _ => ra1_p) fun x hx => ?_
  obtain ⟨a, i⟩ := x
  obtain ⟨h0, h1, hi, hr⟩ := hx
  dsimp only at h0 h1 hi hr ⊢
  rw [ra1]
  unfold ra1_t
  have hla := hi.la
  have eb : ∀ w : Int, IntKind.i64.wrap ↑(BitVec.ofInt 64 ((may k).fdiv (2 ^ min w.toNat 64)) &&& BitVec.ofInt 64 1).toNat = bit (may k) w := fun _ => rfl
  simp only [eb]
  refine ⟨fun h => ?_, fun h => ?_⟩
  · have h := of_decide_eq_true h
    obtain ⟨hd, hm⟩ := nth_get h0 h
    rw [hd] at hr
    have hsp := hsm _ hm
    generalize nth l i = p at *
    have hst : small (List.drop 1 p) = true := small_le (s := p) (by simp) hsp
    rw [wrap64 (by omega) (by omega)]
    have hw := ltr_lt p
    have bad : stepOk (may k) a.la p = false → SV.tuple [SV.agg zeroC.cells, I64 5] = prS r := fun e => by
      rw [hr]
      unfold run
      rw [e]; rfl
    refine ⟨by simp; omega, hsp, fun c2 => bad ?_, fun c2 => ?_⟩
    · have c2 := of_decide_eq_true c2
      unfold stepOk
      rw [decide_eq_false (show ¬ a.la < ltr p by omega)]; rfl
    have c2 := of_decide_eq_false c2
    have hne : p ≠ [] := fun c => by
      subst c
      have : ltr [] = -1 := rfl
      omega
    have hlen : 1 ≤ (p.length : Int) := by
      have : p.length ≠ 0 := fun c => hne (List.eq_nil_of_length_eq_zero c)
      omega
    have ew : IntKind.u64.wrap (ltr p) = ltr p := u64_id (by omega) (by omega)
    rw [ew]
    have hnl : ((nums a.c).length : Int) = 6 := rfl
    refine ⟨by simp; omega, fun c3 => bad ?_, fun c3 => ⟨by simp; omega, by simp; omega, hst, fun c4 => ?_, fun c4 => ?_⟩⟩
    · unfold stepOk
      rw [c3]; simp
    · have c4 := beq_iff_eq.1 c4
      rw [c4]
      refine bad ?_
      have c4 : numB (List.drop 1 p) = false := by
        rw [← Bool.not_eq_true, numB_iff, ne_eq, Decidable.not_not]; exact c4
      unfold stepOk
      rw [c4]; simp
    have c4 : numB (List.drop 1 p) = true := by
      rw [numB_iff]; simpa using c4
    have hok : stepOk (may k) a.la p = true := by
      unfold stepOk
      rw [decide_eq_true (show a.la < ltr p by omega), c3, c4]; rfl
    have hgo : r = resR k (run k (l.drop (i + 1).toNat) (pstep k a p)) := by
      rw [hr, run, if_pos hok]
    have key : ∀ b : Bool, b = (a.ou || ((pv p).2 != 0 || !rangedB k (ltr p) (pv p).1)) →
        (slotsS 129 [(2, SV.ptr 0 0), (4, SV.list Ty.str l), (5, I64 k), (7, SV.ptr 1 0), (8, SV.row 2), (9, I64 (ltr p)), (10, SV.bool b), (11, I64 (i + 1))]).length = 129 ∧ ((∃ s' : PI, s'.invR k l r ∧ (l.length - s'.i).toNat < (l.length - i).toNat ∧ loopOf Tryd.prog 7 0 = loopOf Tryd.prog 7 0 ∧ slotsS 129 [(2, SV.ptr 0 0), (4, SV.list Ty.str l), (5, I64 k), (7, SV.ptr 1 0), (8, SV.row 2), (9, I64 (ltr p)), (10, SV.bool b), (11, I64 (i + 1))] = slotsS 129 [(2, .ptr 0 0), (4, .list .str l), (5, I64 k), (7, .ptr 1 0), (8, .row 2), (9, I64 s'.a.la), (10, .bool s'.a.ou), (11, I64 s'.i)] ∧ [some (Box.cells zeroC.cells), some (Box.cells [I64 (onlyHas a.c).code, I64 (orB (onlyHas a.c).has (ltr p)), I64 (onlyHas a.c).x, I64 (onlyHas a.c).y, I64 (onlyHas a.c).z, I64 (onlyHas a.c).e, I64 (onlyHas a.c).f, I64 (onlyHas a.c).s]), some (Box.rows (Ty.int IntKind.i64) ((nums a.c).set (ltr p).toNat (parseV (List.drop 1 p)).fst))] = [some (.cells [I64 0, I64 0, I64 0, I64 0, I64 0, I64 0, I64 0, I64 0]), some (.cells (onlyHas s'.a.c).cells), some (.rows (.int .i64) (nums s'.a.c))]) ∨ RunsR Tryd.prog (fnOf Tryd.prog 7) (prS r) (loopOf Tryd.prog 7 0) (slotsS 129 [(2, SV.ptr 0 0), (4, SV.list Ty.str l), (5, I64 k), (7, SV.ptr 1 0), (8, SV.row 2), (9, I64 (ltr p)), (10, SV.bool b), (11, I64 (i + 1))]) [some (Box.cells zeroC.cells), some (Box.cells [I64 (onlyHas a.c).code, I64 (orB (onlyHas a.c).has (ltr p)), I64 (onlyHas a.c).x, I64 (onlyHas a.c).y, I64 (onlyHas a.c).z, I64 (onlyHas a.c).e, I64 (onlyHas a.c).f, I64 (onlyHas a.c).s]), some (Box.rows (Ty.int IntKind.i64) ((nums a.c).set (ltr p).toNat (parseV (List.drop 1 p)).fst))]) := by
      intro b e2
      subst e2
      refine ⟨slotsS_len _ _, .inl ⟨⟨pstep k a p, i + 1⟩, ⟨by dsimp only; omega, by dsimp only; omega, inv_step hi hok, hgo⟩, by dsimp only; omega, rfl, rfl, ?_⟩⟩
      have := nums_put a.c (pv p).1 (w := ltr p) (by omega) hw.1
      show _ = [_, _, some (Box.rows (Ty.int IntKind.i64) (nums (a.c.put (ltr p) (pv p).1)))]
      rw [this]; rfl
    refine ⟨fun c5 => ⟨by rw [hnl]; simp; omega, by show decide ((ltr p).toNat < 6) = true; simp; omega, by simp; omega, key _ (by rw [c5]; rfl)⟩, fun c5 => ⟨fun c6 => ⟨by rw [hnl]; simp; omega, by show decide ((ltr p).toNat < 6) = true; simp; omega, by simp; omega, key _ ?_⟩, fun c6 => ⟨by rw [hnl]; simp; omega, by show decide ((ltr p).toNat < 6) = true; simp; omega, by simp; omega, key _ ?_⟩⟩⟩
    · have c6 : ((pv p).2 != 0) = true := c6
      rw [c5, c6]; rfl
    · have c6 : ((pv p).2 != 0) = false := c6
      rw [c5, c6]; rfl
  · have h := of_decide_eq_false h
    have : l.drop i.toNat = [] := List.drop_eq_nil_of_le (by omega)
    rw [this] at hr
    have hr : r = endR k a := hr
    unfold endR at hr
    refine ⟨fun c1 => ?_, fun c1 => ⟨fun c3 => ?_, fun c3 => ?_⟩⟩
    · have c1 : (!(!(may k == 32) || a.c.has == 32)) = true := c1
      rw [c1] at hr; rw [hr]; rfl
    · have c1 : (!(!(may k == 32) || a.c.has == 32)) = false := c1
      rw [c1, c3] at hr; rw [hr]; rfl
    · have c1 : (!(!(may k == 32) || a.c.has == 32)) = false := c1
      rw [c1, c3] at hr; rw [hr]
      exact ⟨rfl, rfl, rfl, rfl, rfl, rfl, rfl, rfl, rfl, rfl, rfl, rfl, rfl⟩
theorem s_parseRC (s : List UInt8) (hs : small s = true) : SCall Tryd.prog 7 [.str s] (prS (parseRC s)) := by
  refine scallR_loops rfl (prS_data _) (by kernel_rfl) (runsR_seg (hK fsB) (n := 1000) (hint := .unit) (keep := keepS 129 [2, 4, 5, 7, 8, 9, 10, 11]) (p := ra0_p) (boxes := []) (prS_data _) ?_)
  have e := ra0 s
  unfold startS codeS at e
  erw [e]
  unfold ra0_t
  have hm := hp_mem s
  have hlen : (pieces 32 s).length ≠ 0 := fun c => pieces_ne 32 s (List.eq_nil_of_length_eq_zero c)
  have hsm : ∀ p ∈ pieces 32 s, small p = true := fun p hp => small_le (pieces_small 32 s p hp) hs
  refine ⟨fun h => ?_, fun h => ⟨hs, by simp; omega, hsm _ hm.1, fun h2 => ?_, fun h2 => ⟨rfl, slotsS_len _ _, ?_⟩⟩⟩
  · have h := of_decide_eq_true h
    show _ = prS (parseRC s)
    unfold parseRC
    rw [if_pos (by omega)]; rfl
  · have h := of_decide_eq_false h
    have h2 : (codeV (hp s)).2 ≠ 0 := by simpa using h2
    show _ = prS (parseRC s)
    unfold parseRC
    rw [if_neg (by omega), if_pos h2]; rfl
  · have h := of_decide_eq_false h
    have h2 : (codeV (hp s)).2 = 0 := by simpa using h2
    have hmany := pieces_many 32 s
    refine ra_loop (codeV (hp s)).1 (pieces 32 s) (by omega) hsm (parseRC s) ⟨startP (codeV (hp s)).1, 1⟩ ⟨(show (0 : Int) ≤ 1 by decide), by dsimp only; omega, inv_start _, ?_⟩
    unfold parseRC
    rw [if_neg (by omega), if_neg (by simpa using h2)]; rfl
end Go.Proofs.YtkmohnciiincmaaDoor
set_option linter.unusedSimpArgs false
set_option linter.unusedVariables false
set_option maxRecDepth 100000
namespace Go.Proofs.YtkmohnciiincmaaDoor
open Go.Sx

/-! ### Lengths -/

theorem rd_small : ∀ (k n : Nat) (u : Int), 0 ≤ u → u < 10 ^ (k + 1) → (rd n u).length ≤ k + 1
  | k, 0, u, _, _ => by simp [rd]
  | 0, n + 1, u, h0, h1 => by
    unfold rd
    rw [if_neg (by have : (10 : Int) ^ (0 + 1) = 10 := rfl; omega)]; simp
  | k + 1, n + 1, u, h0, h1 => by
    unfold rd
    split
    · have hp : (10 : Int) ^ (k + 1 + 1) = 10 ^ (k + 1) * 10 := Int.pow_succ ..
      have := rd_small k n (u / 10) (by omega) (by omega)
      simp only [List.length_cons]; omega
    · simp
theorem toB_len (l : List Int) : (toB l).length = l.length := by simp [toB]
theorem fmt_small {n : Int} (h0 : -1073741824 ≤ n) (h1 : n ≤ 1073741824) : (fmt n).length ≤ 11 := by
  have hp : (10 : Int) ^ (9 + 1) = 10000000000 := by decide
  by_cases hn : n < 0
  · have := rd_small 9 20 (-n) (by omega) (by omega)
    rw [fmt_neg hn (by omega), List.length_cons, toB_len, List.length_reverse]; omega
  · have := rd_small 9 20 n (by omega) (by omega)
    rw [fmt_pos (by omega) (by omega), toB_len, List.length_reverse]; omega
theorem fmt_tiny {n : Int} (h0 : 0 ≤ n) (h1 : n < 1000) : (fmt n).length ≤ 3 := by
  have hp : (10 : Int) ^ (2 + 1) = 1000 := by decide
  have := rd_small 2 20 n (by omega) (by omega)
  rw [fmt_pos (by omega) (by omega), toB_len, List.length_reverse]; omega
theorem name_small {k : Int} (h : okC k = true) : (nameOf k).length ≤ 4 := by
  have hr := okC_range h
  unfold nameOf
  split
  · have := fmt_tiny (n := k) (by omega) (by omega)
    simp; omega
  · rw [wrap64 (by omega) (by omega)]
    have := fmt_tiny (n := k - 1000) (by omega) (by omega)
    simp; omega
theorem words_small {c : C} (h : ∀ i : Int, 0 ≤ i → i < 6 → -1073741824 ≤ c.num i ∧ c.num i ≤ 1073741824) : ∀ n : Nat, n ≤ 6 → (words c n).length ≤ 13 * n
  | 0, _ => by simp [words]
  | n + 1, hn => by
    have ih := words_small h n (by omega)
    have hk := h (5 - (n : Int)) (by omega) (by omega)
    have hf := fmt_small hk.1 hk.2
    unfold words wordT
    split
    · rw [letter_one (by omega) (by omega)]
      have e1 : sp.length = 1 := rfl
      simp only [List.length_append, List.length_singleton, e1]; omega
    · rw [List.nil_append]; omega

/-! ### The words of a command -/

def wl (c : C) : Nat → List (List UInt8)
  | 0 => []
  | n + 1 => (if bit c.has (5 - n) = 1 then [letters.getD (5 - (n : Int)).toNat 0 :: fmt (c.num (5 - n))] else []) ++ wl c n
theorem letter_nospace {i : Int} (h0 : 0 ≤ i) (h6 : i < 6) : letters.getD i.toNat 0 ≠ 32 := by
  have : i = 0 ∨ i = 1 ∨ i = 2 ∨ i = 3 ∨ i = 4 ∨ i = 5 := by omega
  rcases this with rfl | rfl | rfl | rfl | rfl | rfl <;> decide
theorem pieces_words (c : C) : ∀ (n : Nat), n ≤ 6 → ∀ x : List UInt8, (∀ b ∈ x, b ≠ 32) → pieces 32 (x ++ words c n) = x :: wl c n
  | 0, _, x, hx => by
    have : words c 0 = [] := rfl
    rw [this, List.append_nil, pieces_one hx]; rfl
  | n + 1, hn, x, hx => by
    unfold words wordT wl
    by_cases hb : bit c.has (5 - (n : Int)) = 1
    · rw [if_pos hb, if_pos hb, letter_one (by omega) (by omega)]
      have e : x ++ (sp ++ [letters.getD (5 - (n : Int)).toNat 0] ++ fmt (c.num (5 - (n : Int))) ++ words c n) = x ++ 32 :: ((letters.getD (5 - (n : Int)).toNat 0 :: fmt (c.num (5 - (n : Int)))) ++ words c n) := by
        simp [sp]
      rw [e, pieces_sep hx, pieces_words c n (by omega)]
      · rfl
      · intro b hb
        rcases List.mem_cons.1 hb with hb | hb
        · subst hb; exact letter_nospace (by omega) (by omega)
        · exact fmt_nospace _ b hb
    · rw [if_neg hb, if_neg hb, List.nil_append, List.nil_append]
      exact pieces_words c n (by omega) x hx
def flat (l : List (List UInt8)) : List UInt8 := l.flatMap fun p => 32 :: p
theorem words_wl (c : C) : ∀ n : Nat, n ≤ 6 → words c n = flat (wl c n)
  | 0, _ => rfl
  | n + 1, hn => by
    unfold words wordT wl
    rw [words_wl c n (by omega)]
    by_cases hb : bit c.has (5 - (n : Int)) = 1
    · rw [if_pos hb, if_pos hb, letter_one (by omega) (by omega)]
      simp [flat, sp]
    · rw [if_neg hb, if_neg hb]; rfl
theorem pieces_join : ∀ s : List UInt8, s = (pieces 32 s).headD [] ++ flat (pieces 32 s).tail
  | [] => rfl
  | b :: l => by
    have ih := pieces_join l
    unfold pieces
    split
    · rename_i hb
      subst hb
      cases hp : pieces 32 l with
      | nil => exact absurd hp (pieces_ne 32 l)
      | cons x r =>
        rw [hp] at ih
        simp only [List.headD_cons, List.tail_cons] at ih ⊢
        conv => lhs; rw [ih]
        simp [flat]
    · simp only [List.headD_cons, List.tail_cons, List.cons_append]
      rw [← ih]
theorem hp_head (s : List UInt8) : (pieces 32 s).headD [] = hp s := by
  unfold hp
  cases h : pieces 32 s with
  | nil => exact absurd h (pieces_ne 32 s)
  | cons x r => rfl

/-! ### From the command to its text and back -/

def low (h j : Int) : Int := h % 2 ^ j.toNat
def C.cut (c : C) (j : Int) : C := ⟨c.code, low c.has j, if 0 < j then c.x else 0, if 1 < j then c.y else 0, if 2 < j then c.z else 0, if 3 < j then c.e else 0, if 4 < j then c.f else 0, if 5 < j then c.s else 0⟩
theorem low_all : ∀ h : Fin 64, ∀ w : Fin 6, (bit h.val w.val = 1 → orB (low h.val w.val) w.val = low h.val (w.val + 1)) ∧ (bit h.val w.val = 0 → low h.val w.val = low h.val (w.val + 1)) := by decide +kernel
theorem low_at {h w : Int} (h0 : 0 ≤ h) (h1 : h ≤ 63) (w0 : 0 ≤ w) (w1 : w < 6) : (bit h w = 1 → orB (low h w) w = low h (w + 1)) ∧ (bit h w = 0 → low h w = low h (w + 1)) := by
  have := low_all ⟨h.toNat, by omega⟩ ⟨w.toNat, by omega⟩
  simp only at this
  rw [show ((h.toNat : Nat) : Int) = h by omega, show ((w.toNat : Nat) : Int) = w by omega] at this
  exact this
theorem sub_bit_all : ∀ h : Fin 64, ∀ w : Fin 6, ∀ m ∈ [0, 23, 31, 32], andNot h.val m = 0 → bit h.val w.val = 1 → bit m w.val ≠ 0 := by decide +kernel
theorem sub_bit {h w k : Int} (h0 : 0 ≤ h) (h1 : h ≤ 63) (w0 : 0 ≤ w) (w1 : w < 6) (hs : andNot h (may k) = 0) (hb : bit h w = 1) : bit (may k) w ≠ 0 := by
  have := sub_bit_all ⟨h.toNat, by omega⟩ ⟨w.toNat, by omega⟩ (may k) (may_in k)
  simp only at this
  rw [show ((h.toNat : Nat) : Int) = h by omega, show ((w.toNat : Nat) : Int) = w by omega] at this
  exact this hs hb
theorem cut_put {c : C} {j : Int} (hh : 0 ≤ c.has ∧ c.has ≤ 63) (j0 : 0 ≤ j) (j1 : j < 6) (hb : bit c.has j = 1) : (c.cut j).put j (c.num j) = c.cut (j + 1) := by
  have e := (low_at hh.1 hh.2 j0 j1).1 hb
  have h : j = 0 ∨ j = 1 ∨ j = 2 ∨ j = 3 ∨ j = 4 ∨ j = 5 := by omega
  unfold C.put C.cut
  dsimp only
  rw [e]
  rcases h with rfl | rfl | rfl | rfl | rfl | rfl <;> simp [C.num]
theorem cut_skip {c : C} {j : Int} (hh : 0 ≤ c.has ∧ c.has ≤ 63) (j0 : 0 ≤ j) (j1 : j < 6) (hb : bit c.has j = 0) (hn : c.num j = 0) : c.cut j = c.cut (j + 1) := by
  have e := (low_at hh.1 hh.2 j0 j1).2 hb
  have h : j = 0 ∨ j = 1 ∨ j = 2 ∨ j = 3 ∨ j = 4 ∨ j = 5 := by omega
  unfold C.cut
  rw [e]
  rcases h with rfl | rfl | rfl | rfl | rfl | rfl <;> simp_all [C.num]
theorem ltr_letter_all : ∀ w : Fin 6, Lib.indexByte letters (letters.getD w.val 0) = w.val := by decide
theorem ltr_letter {w : Int} (w0 : 0 ≤ w) (w1 : w < 6) (t : List UInt8) : ltr (letters.getD w.toNat 0 :: t) = w := by
  have := ltr_letter_all ⟨w.toNat, by omega⟩
  simp only at this
  show Lib.indexByte letters (letters.getD w.toNat 0) = w
  rw [this]; omega

theorem run_words {k : Int} {c : C} (f : Fine c) (hs : andNot c.has (may k) = 0) : ∀ (n : Nat), n ≤ 6 → ∀ (la : Int) (ou : Bool), la < 6 - n → ∃ la' ou', run k (wl c n) ⟨la, false, ou, c.cut (6 - n)⟩ = some ⟨la', false, ou', c.cut 6⟩
  | 0, _, la, ou, _ => ⟨la, ou, rfl⟩
  | n + 1, hn, la, ou, hla => by
    unfold wl
    have j0 : 0 ≤ 5 - (n : Int) := by omega
    have j1 : 5 - (n : Int) < 6 := by omega
    have ej : (6 : Int) - ((n + 1 : Nat) : Int) = 5 - (n : Int) := by omega
    have ej2 : 5 - (n : Int) + 1 = 6 - (n : Int) := by omega
    rw [ej]
    by_cases hb : bit c.has (5 - (n : Int)) = 1
    · rw [if_pos hb]
      have hnum := f.nums (5 - (n : Int)) j0 j1
      have hp : pv (letters.getD (5 - (n : Int)).toNat 0 :: fmt (c.num (5 - (n : Int)))) = (c.num (5 - (n : Int)), 0) := parse_fmt hnum.1 hnum.2
      have hl := ltr_letter j0 j1 (fmt (c.num (5 - (n : Int))))
      have hok : stepOk (may k) la (letters.getD (5 - (n : Int)).toNat 0 :: fmt (c.num (5 - (n : Int)))) = true := by
        unfold stepOk
        have h1 : numB (List.drop 1 (letters.getD (5 - (n : Int)).toNat 0 :: fmt (c.num (5 - (n : Int))))) = true := by
          rw [numB_iff]
          have hp : parseV (List.drop 1 (letters.getD (5 - (n : Int)).toNat 0 :: fmt (c.num (5 - (n : Int))))) = (c.num (5 - (n : Int)), 0) := hp
          rw [hp]; simp
        rw [hl, h1, decide_eq_true (by omega)]
        have h2 := sub_bit f.has.1 f.has.2 j0 j1 hs hb
        simpa using h2
      rw [List.singleton_append, run, if_pos hok]
      unfold pstep
      dsimp only
      rw [hl, hp, cut_put f.has j0 j1 hb, ej2]
      exact run_words f hs n (by omega) _ _ (by omega)
    · rw [if_neg hb, List.nil_append, cut_skip f.has j0 j1 (by have := bit_01 c.has (5 - (n : Int)); omega) (f.zero _ j0 j1 hb), ej2]
      exact run_words f hs n (by omega) la ou (by omega)

theorem cut_all {c : C} (h0 : 0 ≤ c.has) (h1 : c.has ≤ 63) : c.cut 6 = c := by
  unfold C.cut low
  have : c.has % 2 ^ (6 : Int).toNat = c.has := by
    have : (2 : Int) ^ (6 : Int).toNat = 64 := rfl
    rw [this]; omega
  rw [this]; rfl
theorem cut_none (c : C) : c.cut 0 = ⟨c.code, 0, 0, 0, 0, 0, 0, 0⟩ := by
  unfold C.cut low
  have : c.has % 2 ^ (0 : Int).toNat = 0 := by
    have : (2 : Int) ^ (0 : Int).toNat = 1 := rfl
    rw [this]; omega
  rw [this]; rfl

theorem text_len {c : C} (hg : c.good) (h : c.valid = true) : (c.text.length : Int) ≤ 96 := by
  have f := fine_of hg h
  have hn := name_small f.ok
  have hr : rest c 6 = true := by
    simp only [C.valid, Bool.and_eq_true] at h; exact h.2
  have hw := words_small (c := c) (fun i h0 h6 => by
    have := (okW_ok (c := c) (i := i) rfl).1 (rest_all hr i h0 h6)
    have := lohi c.code i
    omega) 6 (Nat.le_refl 6)
  unfold C.text
  rw [List.length_append]; omega
theorem parse_text {c : C} (hg : c.good) (h : c.valid = true) : parseC c.text = (c, 0) := by
  have f := fine_of hg h
  have hl := text_len hg h
  have hpi := pieces_words c 6 (Nat.le_refl 6) (nameOf c.code) (name_nospace _)
  have hpi : pieces 32 c.text = nameOf c.code :: wl c 6 := hpi
  have hh : hp c.text = nameOf c.code := by unfold hp; rw [hpi]; rfl
  have hc := code_name f.ok
  have hv := h
  simp only [C.valid, C.pre, Bool.and_eq_true, beq_iff_eq, Bool.not_eq_true'] at h
  obtain ⟨la, ou, hr⟩ := run_words f h.1.2.1 6 (Nat.le_refl 6) (-1) false (by omega)
  have e0 : c.cut (6 - ((6 : Nat) : Int)) = ⟨c.code, 0, 0, 0, 0, 0, 0, 0⟩ := cut_none c
  rw [e0, cut_all f.has.1 f.has.2] at hr
  have hr : run c.code (wl c 6) (startP c.code) = some ⟨la, false, ou, c⟩ := hr
  unfold parseC
  rw [if_neg (by omega), hh, hc, if_neg (by simp), hpi]
  show resP c.code (run c.code (wl c 6) (startP c.code)) = _
  rw [hr]
  show endP c.code ⟨la, false, ou, c⟩ = _
  unfold endP
  rw [h.1.2.2, hv]; rfl

/-! ### From a text to its command and back -/

theorem wl_skip {c : C} {w : Int} (w0 : 0 ≤ w) (w1 : w < 6) : ∀ n : Nat, n ≤ 6 → 6 - (n : Int) ≤ w → (∀ v : Int, 6 - (n : Int) ≤ v → v < w → bit c.has v ≠ 1) → wl c n = wl c (6 - w).toNat
  | 0, _, h, _ => by omega
  | n + 1, hn, h, hb => by
    by_cases e : 5 - (n : Int) = w
    · rw [show (6 - w).toNat = n + 1 by omega]
    · conv => lhs; unfold wl
      rw [if_neg (hb _ (by omega) (by omega)), List.nil_append]
      exact wl_skip w0 w1 n (by omega) (by omega) fun v h1 h2 => hb v (by omega) h2
theorem wl_nil {c : C} : ∀ n : Nat, n ≤ 6 → (∀ v : Int, 6 - (n : Int) ≤ v → v < 6 → bit c.has v ≠ 1) → wl c n = []
  | 0, _, _ => rfl
  | n + 1, hn, hb => by
    unfold wl
    rw [if_neg (hb _ (by omega) (by omega)), List.nil_append]
    exact wl_nil n (by omega) fun v h1 h2 => hb v (by omega) h2
theorem ltr_back {p : List UInt8} (h : 0 ≤ ltr p) : ∃ t, p = letters.getD (ltr p).toNat 0 :: t := by
  cases p with
  | nil => exact absurd h (by decide)
  | cons b t =>
    refine ⟨t, ?_⟩
    have e : ltr (b :: t) = Lib.indexByte letters b := rfl
    rw [e] at h ⊢
    obtain ⟨i, hi⟩ : ∃ i : Nat, Lib.indexByte letters b = i := ⟨(Lib.indexByte letters b).toNat, by omega⟩
    have h1 := (Lib.indexByte_some hi).1
    rw [hi, List.getD_eq_getElem?_getD]
    simp only [Int.toNat_natCast]
    rw [h1]; rfl

theorem run_back {k : Int} : ∀ (ps : List (List UInt8)) (a b : PS), Inv k a → run k ps a = some b → b.lg = false →
    a.lg = false ∧ (∀ v : Int, 0 ≤ v → v ≤ a.la → bit b.c.has v = bit a.c.has v ∧ b.c.num v = a.c.num v) ∧ ps = wl b.c (5 - a.la).toNat
  | [], a, b, hi, hr, hb => by
    injection hr with hr
    subst hr
    have hla := hi.la
    refine ⟨hb, fun v _ _ => ⟨rfl, rfl⟩, (wl_nil _ (by omega) fun v h1 h2 => ?_).symm⟩
    have := hi.hi v (by omega) (by omega) h2
    omega
  | p :: ps, a, b, hi, hr, hb => by
    unfold run at hr
    split at hr
    · rename_i hs
      have hi' := inv_step hi hs
      obtain ⟨i1, i2, i3⟩ := run_back ps _ b hi' hr hb
      obtain ⟨s1, s2, s3⟩ := step_ok hs
      have hw := ltr_lt p
      have hla := hi.la
      have w0 : 0 ≤ ltr p := by omega
      obtain ⟨o1, o2⟩ := orB_at hi.has.1 hi.has.2 w0 hw.1
      have i1 : (a.lg || (pv p).2 != 0) = false := i1
      simp only [Bool.or_eq_false_iff, bne_eq_false_iff_eq] at i1
      have i3 : ps = wl b.c (5 - ltr p).toNat := i3
      have low : ∀ v : Int, 0 ≤ v → v ≤ ltr p → bit b.c.has v = (if v = ltr p then 1 else bit a.c.has v) ∧ b.c.num v = (if v = ltr p then (pv p).1 else a.c.num v) := by
        intro v v0 v1
        obtain ⟨j1, j2⟩ := i2 v v0 v1
        have j1 : bit b.c.has v = bit (orB a.c.has (ltr p)) v := j1
        have j2 : b.c.num v = (a.c.put (ltr p) (pv p).1).num v := j2
        rw [j1, j2, o2 v v0 (by omega), num_put _ _ _ v0 (by omega)]
        exact ⟨rfl, rfl⟩
      refine ⟨i1.1, fun v v0 v1 => ?_, ?_⟩
      · have := low v v0 (by omega)
        rw [if_neg (by omega), if_neg (by omega)] at this
        exact this
      · rw [wl_skip w0 hw.1 (5 - a.la).toNat (by omega) (by omega) fun v h1 h2 => ?_]
        · obtain ⟨t, ht⟩ := ltr_back w0
          have hpp : parseV t = ((pv p).1, 0) := by
            have e : pv p = parseV t := by unfold pv; rw [ht]; rfl
            rw [← e]; exact Prod.ext rfl i1.2
          have hc := (parse_canon hpp).1
          have hl := low (ltr p) w0 (Int.le_refl _)
          rw [if_pos rfl, if_pos rfl] at hl
          rw [show (6 - ltr p).toNat = (5 - ltr p).toNat + 1 by omega]
          unfold wl
          rw [show (5 : Int) - (((5 - ltr p).toNat : Nat) : Int) = ltr p by omega, if_pos hl.1, hl.2, ← hc, ← ht, ← i3]
          rfl
        · have := low v (by omega) (by omega)
          rw [if_neg (by omega)] at this
          rw [this.1, hi.hi v (by omega) (by omega) (by omega)]
          decide
    · cases hr

theorem parse_back {s : List UInt8} {d : C} (h : parseC s = (d, 0)) : d.valid = true ∧ d.text = s ∧ 0 ≤ d.has ∧ d.has ≤ 63 := by
  unfold parseC at h
  split at h
  · injection h with _ h; cases h
  · split at h
    · rename_i h1
      injection h with _ h; exact absurd h h1
    · rename_i h1
      rcases code_ok (hp s) with e | e | ⟨k, e, hk⟩
      · rw [e] at h1; exact absurd (by decide) h1
      · rw [e] at h1; exact absurd (by decide) h1
      · rw [e] at h
        cases hr : run k ((pieces 32 s).drop 1) (startP k) with
        | none =>
          have hr : run (k, (0 : Int)).1 ((pieces 32 s).drop 1) (startP (k, (0 : Int)).1) = none := hr
          rw [hr] at h
          injection h with _ h; cases h
        | some a =>
          have hr' : run (k, (0 : Int)).1 ((pieces 32 s).drop 1) (startP (k, (0 : Int)).1) = some a := hr
          rw [hr'] at h
          have h : endP k a = (d, 0) := h
          unfold endP at h
          split at h
          · injection h with _ h; cases h
          · split at h
            · injection h with _ h; cases h
            · rename_i hv
              injection h with h _
              subst h
              simp only [Bool.or_eq_true, Bool.not_eq_true', not_or, Bool.not_eq_true, Bool.not_eq_false] at hv
              have hi := run_inv (inv_start k) hr
              obtain ⟨_, _, b3⟩ := run_back _ _ _ (inv_start k) hr hv.1
              refine ⟨hv.2, ?_, hi.has⟩
              have b3 : (pieces 32 s).drop 1 = wl a.c 6 := b3
              have hn := (name_code e).2
              have hj := pieces_join s
              rw [hp_head, ← List.drop_one, b3, ← words_wl a.c 6 (Nat.le_refl 6), hn] at hj
              unfold C.text
              rw [hi.code]; exact hj.symm
theorem parse_none {s : List UInt8} (h : (parseC s).2 ≠ 0) : (parseC s).1 = zeroC := by
  unfold parseC at h ⊢
  split
  · rfl
  · rename_i h0
    rw [if_neg h0] at h
    split
    · rfl
    · rename_i h1
      rw [if_neg h1] at h
      cases hr : run (codeV (hp s)).1 ((pieces 32 s).drop 1) (startP (codeV (hp s)).1) with
      | none => rfl
      | some a =>
        rw [hr] at h
        have h : (endP (codeV (hp s)).1 a).2 ≠ 0 := h
        show (endP (codeV (hp s)).1 a).1 = zeroC
        unfold endP at h ⊢
        split
        · rfl
        · rename_i h2
          rw [if_neg h2] at h
          split
          · rfl
          · rename_i h3
            rw [if_neg h3] at h
            exact absurd rfl h
end Go.Proofs.YtkmohnciiincmaaDoor
set_option linter.unusedSimpArgs false
set_option linter.unusedVariables false
set_option maxRecDepth 100000
namespace Go.Proofs.YtkmohnciiincmaaDoor
open Go.Sx
def prT (r : C × Int) : Tree SV := .leaf (.tuple [.agg [I64 r.1.code, I64 r.1.has, I64 r.1.x, I64 r.1.y, I64 r.1.z, I64 r.1.e, I64 r.1.f, I64 r.1.s], I64 r.2])
def fParseC : Fact := factT 6 fun s => prT (parseC s)
def fParseRC : Fact := factT 7 fun s => prT (parseRC s)
theorem o_parseC : fParseC.ok Tryd.prog := factT_ok s_parseC
theorem o_parseRC : fParseRC.ok Tryd.prog := factT_ok s_parseRC
theorem s_lawParses (s : List UInt8) : SCall Tryd.prog 3 [.str s] (.bool true) :=
  scall_v mix [fParseC, fParseRC, fPrint, fValid, fAwake] ⟨o_parseC, o_parseRC, o_print, o_valid, o_awake, trivial⟩ 1000 (.fork (.all) (.fork (.lit (.lit (.lit (.fork (.lit (.all)) (.lit (.all)))))) (.lit (.lit (.lit (.lit (.lit (.all))))))))
   (t := .node (decide ((↑s.length : Int) > 2000))
 (.leaf (SV.bool true))
 (.req (small s) (.req (small s) (.node ((parseC s).fst.code == (parseRC s).fst.code && ((parseC s).fst.has == (parseRC s).fst.has && ((parseC s).fst.x == (parseRC s).fst.x && ((parseC s).fst.y == (parseRC s).fst.y && ((parseC s).fst.z == (parseRC s).fst.z && ((parseC s).fst.e == (parseRC s).fst.e && ((parseC s).fst.f == (parseRC s).fst.f && ((parseC s).fst.s == (parseRC s).fst.s && true))))))))
    (.node ((parseC s).snd == (parseRC s).snd)
     (.leaf (SV.bool true))
     (.leaf (SV.bool false)))
    (.leaf (SV.bool false))))))
   (by kernel_rfl) (by 
    rw [parse_eq]
    simp only [Tree.holds, decide_eq_true_eq, decide_eq_false_iff_not]
    refine ⟨fun _ => trivial, fun h => ⟨small_iff.2 (by omega), small_iff.2 (by omega), ?_⟩⟩
    simp) (by kernel_rfl) (by kernel_rfl)
theorem s_lawTrips (c : C) (s : List UInt8)(hc : c.good) : SCall Tryd.prog 4 [c.sv, .str s] (.bool true) :=
  scall_v mix [fParseC, fParseRC, fPrint, fValid, fAwake] ⟨o_parseC, o_parseRC, o_print, o_valid, o_awake, trivial⟩ 1000 (.fork (.lit (.fork (.lit (.lit (.lit (.lit (.lit (.lit (.lit (.lit (.lit (.lit (.lit (.all)))))))))))) (.lit (.lit (.fork (.lit (.lit (.lit (.lit (.lit (.lit (.lit (.lit (.all))))))))) (.lit (.lit (.lit (.fork (.lit (.lit (.lit (.lit (.all))))) (.lit (.lit (.lit (.fork (.all) (.fork (.all) (.fork (.fork (.lit (.all)) (.lit (.all))) (.fork (.lit (.lit (.lit (.lit (.fork (.lit (.all)) (.lit (.all))))))) (.lit (.lit (.lit (.lit (.lit (.lit (.all))))))))))))))))))))))) (.lit (.lit (.lit (.lit (.fork (.all) (.fork (.all) (.fork (.fork (.lit (.all)) (.lit (.all))) (.fork (.lit (.lit (.lit (.lit (.fork (.lit (.all)) (.lit (.all))))))) (.lit (.lit (.lit (.lit (.lit (.lit (.all))))))))))))))))
   (t := .node (c.valid)
 (.req (small c.text) (.node (!((parseC c.text).fst.code == c.code && ((parseC c.text).fst.has == c.has && ((parseC c.text).fst.x == c.x && ((parseC c.text).fst.y == c.y && ((parseC c.text).fst.z == c.z && ((parseC c.text).fst.e == c.e && ((parseC c.text).fst.f == c.f && ((parseC c.text).fst.s == c.s && true)))))))))
   (.leaf (SV.bool false))
   (.node ((parseC c.text).snd != 0)
    (.leaf (SV.bool false))
    (.node (decide ((↑c.text.length : Int) > 96))
     (.leaf (SV.bool false))
     (.node (!c.valid)
      (.leaf (SV.bool false))
      (.node (decide ((↑s.length : Int) > 2000))
       (.leaf (SV.bool true))
       (.req (small s) (.node ((parseC s).snd != 0)
         (.node ((parseC s).fst.code == 0 && ((parseC s).fst.has == 0 && ((parseC s).fst.x == 0 && ((parseC s).fst.y == 0 && ((parseC s).fst.z == 0 && ((parseC s).fst.e == 0 && ((parseC s).fst.f == 0 && ((parseC s).fst.s == 0 && true))))))))
          (.leaf (SV.bool true))
          (.leaf (SV.bool false)))
         (.node ((parseC s).fst.valid)
          (.node ((parseC s).fst.text == s)
           (.leaf (SV.bool true))
           (.leaf (SV.bool false)))
          (.leaf (SV.bool false)))))))))))
 (.node (c.valid)
  (.leaf (SV.bool false))
  (.node (decide ((↑s.length : Int) > 2000))
   (.leaf (SV.bool true))
   (.req (small s) (.node ((parseC s).snd != 0)
     (.node ((parseC s).fst.code == 0 && ((parseC s).fst.has == 0 && ((parseC s).fst.x == 0 && ((parseC s).fst.y == 0 && ((parseC s).fst.z == 0 && ((parseC s).fst.e == 0 && ((parseC s).fst.f == 0 && ((parseC s).fst.s == 0 && true))))))))
      (.leaf (SV.bool true))
      (.leaf (SV.bool false)))
     (.node ((parseC s).fst.valid)
      (.node ((parseC s).fst.text == s)
       (.leaf (SV.bool true))
       (.leaf (SV.bool false)))
      (.leaf (SV.bool false))))))))
   (by kernel_rfl) (by 
    have tail : (Tree.node (decide ((↑s.length : Int) > 2000))
      (.leaf (SV.bool true))
      (.req (small s) (.node ((parseC s).snd != 0)
        (.node ((parseC s).fst.code == 0 && ((parseC s).fst.has == 0 && ((parseC s).fst.x == 0 && ((parseC s).fst.y == 0 && ((parseC s).fst.z == 0 && ((parseC s).fst.e == 0 && ((parseC s).fst.f == 0 && ((parseC s).fst.s == 0 && true))))))))
          (.leaf (SV.bool true))
          (.leaf (SV.bool false)))
        (.node ((parseC s).fst.valid)
          (.node ((parseC s).fst.text == s)
            (.leaf (SV.bool true))
            (.leaf (SV.bool false)))
          (.leaf (SV.bool false)))))).holds fun x => x = SV.bool true := by
      simp only [Tree.holds, decide_eq_true_eq, decide_eq_false_iff_not]
      refine ⟨fun _ => trivial, fun h => ⟨small_iff.2 (by omega), fun h2 => ?_, fun h2 => ?_⟩⟩
      · have := parse_none (s := s) (by simpa using h2)
        rw [this]
        exact ⟨fun _ => trivial, fun h => absurd h (by decide)⟩
      · have h2 : (parseC s).2 = 0 := by simpa using h2
        have := parse_back (s := s) (d := (parseC s).1) (Prod.ext rfl h2)
        rw [this.1, this.2.1]
        simp
    refine ⟨fun h => ?_, fun h => ⟨fun h2 => ?_, fun _ => tail⟩⟩
    · have hp := parse_text hc h
      have hl := text_len hc h
      rw [hp]
      refine ⟨small_iff.2 (by omega), fun h2 => ?_, fun _ => ⟨fun h2 => ?_, fun _ => ⟨fun h2 => ?_, fun _ => ⟨fun h2 => ?_, fun _ => tail⟩⟩⟩⟩
      · simp at h2
      · simp at h2
      · have h2 := of_decide_eq_true h2; omega
      · rw [h] at h2; cases h2
    · rw [h] at h2; cases h2) (by kernel_rfl) (by kernel_rfl)
end Go.Proofs.YtkmohnciiincmaaDoor
namespace Go.Proofs.YtkmohnciiincmaaDoor
open Go.ChangeShapes Go.WideShapes Go.ChangeAt Go.RowKit
open Go.Sx
set_option linter.unusedVariables false
set_option maxRecDepth 100000

theorem gcodeRoundTrips_own : ownKnob Tryd.prog.godebug = none := by kernel_rfl
theorem gcodeRoundTrips_laid : laidOutB Tryd.prog = true := by kernel_rfl

theorem gcodeRoundTrips_lifted (os : Os) (started : os.Started) (H : Type) (enc : TypeId × Value → H) :
    ReturnsInHanded {} Tryd.checked os 4 .any (fun w args => (Rows.gcodeRoundTripsSpec.pre enc Tryd.prog Tryd.f4 [] false w args ∧ laidMetH Tryd.prog Rows.gcodeRoundTripsRow.laid w) ∧ sizedMet enc Tryd.prog Tryd.f4 (OpenSpec.ofChange Rows.gcodeRoundTripsSpec) false w args)
      (Rows.gcodeRoundTripsSpec.post enc Tryd.prog Tryd.f4 false true false false) := by
  refine returnsIn_both (C := Tryd.checked) (X := fun w _ => laidMetH Tryd.prog Rows.gcodeRoundTripsRow.laid w) (fun _ _ _ hh h => h.of_heap hh) gcodeRoundTrips_own started (by kernel_rfl) Tryd.func4
    (ChangeSpec.witness_shaped (enc := enc) (C := Tryd.checked) (os := os) (X := fun w _ => laidMetH Tryd.prog Rows.gcodeRoundTripsRow.laid w) false (World.laidAll Tryd.prog os Rows.gcodeRoundTripsRow.laid) #[.agg #[.int .i64 0, .int .i64 0, .int .i64 0, .int .i64 0, .int .i64 0, .int .i64 0, .int .i64 0, .int .i64 0], .string ⟨#[]⟩] 8 (World.laidAll_os _ _ _)
      (World.shaped_of_ZipB (by kernel_rfl) (by kernel_rfl)) (by kernel_rfl) (by kernel_rfl) (by kernel_rfl)
      (by rw [MakeChecks.laidMetH_plain _ _ _ (by kernel_rfl)]; exact laidMet_laidAll _ (by kernel_rfl) (by kernel_rfl))) ?_
  intro W base args ds gs before hval0 hW hshp _
  have hval : ∀ (j : Nat) t v, Tryd.f4.params[j]? = some t → args[j]? = some v → Value.okWide Tryd.prog W .any base t v := hval0
  have hW' := hW
  obtain ⟨p, q, hA0, hV, rfl, hfz, hnd⟩ := hW'
  have hA : DataW.TrodAll enc Tryd.prog W 0 (fun _ => true) true Tryd.f4.params.toList args.toList ds p := hA0
  rw [Tryd.params4] at hA hval
  obtain ⟨v0, vs0, d0, ds0, p0, q0, hargs, rfl, rfl, h0, r0⟩ := trodAll_cons hA
  obtain ⟨v1, vs1, d1, ds1, p1, q1, rfl, rfl, rfl, h1, r1⟩ := trodAll_cons r0
  obtain ⟨rfl, rfl, rfl⟩ := trodAll_nil r1
  obtain rfl : args = #[v0, v1] := by cases args; simp_all
  obtain ⟨rfl, rfl⟩ := trodVars_none hV
  have lt0 : ∀ x ∈ p0, x.block < W.heap.size := by obtain ⟨m, hm⟩ := h0; exact DataW.trod_lt m _ _ _ hm
  obtain ⟨y0, w0, s0⟩ := argOf_agg (d := 20) (u := .pair (.int .i64) (.pair (.int .i64) (.pair (.int .i64) (.pair (.int .i64) (.pair (.int .i64) (.pair (.int .i64) (.pair (.int .i64) (.int .i64)))))))) (by kernel_rfl) Tryd.underlying24 (hval 0 24 v0 rfl rfl) h0
  have lt1 : ∀ x ∈ p1, x.block < W.heap.size := by obtain ⟨m, hm⟩ := h1; exact DataW.trod_lt m _ _ _ hm
  obtain ⟨y1, w1, s1⟩ := argOf_str (d := 1) (by kernel_rfl) Tryd.underlying9 (hval 1 9 v1 rfl rfl) h1
  clear hA0 hval0
  refine (SCall.calls_some (s_lawTrips (⟨y0.1, y0.2.1, y0.2.2.1, y0.2.2.2.1, y0.2.2.2.2.1, y0.2.2.2.2.2.1, y0.2.2.2.2.2.2.1, y0.2.2.2.2.2.2.2⟩ : C) y1 (wf64 w0.2.1)) rfl Tryd.func4 (by kernel_rfl) (by kernel_rfl) W [v0, v1] (⟨_, _, rfl, s0, ⟨_, _, rfl, s1, rfl⟩⟩) hshp).mono fun e W' he => ?_
  obtain ⟨u, rfl, bel, rfl⟩ := he
  exact ⟨_, rfl, _, _, _, [], _, [], hW, trodAll_mk1 (shut_bool Tryd.underlying4 _), (trodAll_cons_mk (Below.trod gcodeRoundTrips_laid (by kernel_rfl) (of_decide_eq_true (by kernel_rfl)) h0 bel lt0) (trodAll_cons_mk (Below.trod gcodeRoundTrips_laid (by kernel_rfl) (of_decide_eq_true (by kernel_rfl)) h1 bel lt1) trodAll_mk0)), rfl, bel.frame _, fun h => by cases h⟩

theorem gcodeRoundTrips_over : Rows.gcodeRoundTripsRow.holds Tryd.pinned (OpenSpec.ofChange Rows.gcodeRoundTripsSpec) :=
  OpenClaim.holds_of_wide 4 Tryd.f4 rfl rfl rfl rfl rfl rfl rfl ⟨rfl, rfl, rfl, rfl, rfl⟩ rfl rfl rfl rfl rfl (by kernel_rfl) Tryd.func4 (by kernel_rfl)
    (of_decide_eq_true (by kernel_rfl)) (by unfold Func.isWrapper; first | (rw [if_pos (by decide +kernel)]; kernel_rfl) | (rw [if_neg (by decide +kernel)]; exact ⟨rfl, rfl⟩))
    (fun os started H enc _ => gcodeRoundTrips_lifted os started H enc)

theorem gcodeRoundTrips_proved : Rows.GcodeRoundTripsCardSaid :=
  Claim7.holds_tied_plain_at .later [] [.data, .pinned] true (true, "aa32b510bf4859abd69f7c952e20aa14812224e99a46c6d215e5a286273c744c") false
    gcodeRoundTrips_over (fun _ h => by cases h) (by kernel_rfl) (fun _ h => by cases h) gcodeRoundTrips_row_tie rfl ⟨rfl, rfl⟩ (by kernel_rfl) rfl
    (fun f fn hf hfn => by
      obtain rfl : f = 4 := Option.some.inj ((show Tryd.prog.funcNamed "additive/additivelaw39.GcodeRoundTrips" = some 4 by kernel_rfl).symm.trans hf) |>.symm
      obtain rfl : fn = Tryd.f4 := (Option.some.inj (Tryd.func4.symm.trans hfn)).symm
      exact ⟨by kernel_rfl, fun j t ht => by
        rw [Tryd.params4] at ht
        have hm : t ∈ [24, 9] := by simpa using Array.mem_of_getElem? ht
        have hall : ([24, 9].all fun u => !Tryd.prog.wantsStandIn u) = true := by kernel_rfl
        exact (show Tryd.prog.wantsStandIn t = false by simpa using List.all_eq_true.1 hall t hm)⟩)
    (by kernel_rfl)

end Go.Proofs.YtkmohnciiincmaaDoor
