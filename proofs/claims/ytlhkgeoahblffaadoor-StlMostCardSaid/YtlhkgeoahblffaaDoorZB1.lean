/-
  GA5: the segments of StlRoundTrips; StlCanonical. Written by gen.py.
  RT: the laws StlRoundTrips and StlCanonical: contracts.
-/
import Derived.Test.YtlhkgeoahblffaaDoorZA10
set_option linter.unusedSimpArgs false
set_option linter.unusedVariables false
set_option maxRecDepth 100000
namespace Go.Proofs.YtlhkgeoahblffaaDoor
open Go.Sx
def rt0_p : Plan := .fork (.lit (.lit (.lit (.lit (.fork (.all) (.fork (.fork (.lit (.lit (.lit (.lit (.fork (.lit (.all)) (.lit (.all))))))) (.lit (.lit (.lit (.lit (.lit (.lit (.all)))))))) (.fork (.lit (.lit (.lit (.lit (.lit (.lit (.lit (.lit (.lit (.lit (.lit (.lit (.lit (.lit (.lit (.lit (.lit (.lit (.lit (.lit (.lit (.lit (.lit (.lit (.all))))))))))))))))))))))))) (.lit (.lit (.fork (.lit (.lit (.lit (.lit (.lit (.lit (.lit (.lit (.lit (.lit (.lit (.lit (.lit (.lit (.lit (.lit (.lit (.lit (.lit (.lit (.lit (.all)))))))))))))))))))))) (.lit (.lit (.lit (.lit (.lit (.lit (.lit (.fork (.lit (.lit (.lit (.lit (.lit (.lit (.lit (.lit (.lit (.lit (.lit (.lit (.lit (.all)))))))))))))) (.lit (.lit (.lit (.lit (.lit (.lit (.lit (.lit (.fork (.lit (.lit (.lit (.lit (.all))))) (.lit (.lit (.lit (.fork (.all) (.all)))))))))))))))))))))))))))))))) (.lit (.lit (.lit (.lit (.lit (.all))))))
noncomputable def rt0_t (us ts : List (Int × Int × Int)) : Tree Stop :=
   .node (decide (((ts.length : Int) : Int) ≤ 40))
 (.node (!decide (((us.length : Int) : Int) ≤ 60))
  (.leaf (Stop.done (SV.bool true)))
  (.node ((printT us ts).snd != 0)
   (.node ((printT us ts).fst == [])
    (.node ((printT us ts).snd == chk us ts)
     (.leaf (Stop.done (SV.bool true)))
     (.leaf (Stop.done (SV.bool false))))
    (.leaf (Stop.done (SV.bool false))))
   (.node (mE (printT us ts).fst != 0)
    (.leaf (Stop.done (SV.bool false)))
    (.node (mL (printT us ts).fst != 0)
     (.leaf (Stop.done (SV.bool false)))
     (.node ((↑(mT (printT us ts).fst).length : Int) != ((ts.length : Int) : Int))
      (.leaf (Stop.done (SV.bool false)))
      (.node ((↑(mU (printT us ts).fst).length : Int) != IntKind.i64.wrap (3 * ((ts.length : Int) : Int)))
       (.leaf (Stop.done (SV.bool false)))
       (.node (chk (mU (printT us ts).fst) (mT (printT us ts).fst) != 0)
        (.leaf (Stop.done (SV.bool false)))
        (.leaf (Stop.at (loopOf Tryd.prog 5 0) 120 (slotsS 120 [(1, SV.ptr 0 0), (5, SV.ptr 1 0), (8, I64 0)]) [some (Box.cells [SV.list v3 us, SV.list v3 ts]), some (Box.cells [SV.list v3 (mU (printT us ts).fst), SV.list v3 (mT (printT us ts).fst)])])))))))))
 (.leaf (Stop.done (SV.bool true)))
theorem rt0 (us ts : List (Int × Int × Int)) : segR (Env.of Tryd.prog (sumOf [fAwake, fPrint, fParseQ, fCheck, fCorners])) 1000 (fnOf Tryd.prog 5) .unit (keepS 120 [1,5,8]) (codeS Tryd.prog 5) rt0_p (startS Tryd.prog 5 [.agg [.list v3 us, .list v3 ts]]) [] = rt0_t us ts := by kernel_rfl
def rt1_p : Plan := .fork (.fork (.fork (.lit (.lit (.lit (.lit (.lit (.lit (.lit (.lit (.lit (.lit (.lit (.lit (.lit (.lit (.lit (.lit (.all))))))))))))))))) (.lit (.lit (.lit (.lit (.lit (.lit (.lit (.lit (.lit (.lit (.lit (.lit (.lit (.lit (.lit (.lit (.all)))))))))))))))))) (.fork (.lit (.lit (.lit (.lit (.lit (.lit (.lit (.lit (.lit (.lit (.lit (.lit (.lit (.lit (.lit (.lit (.all))))))))))))))))) (.lit (.lit (.lit (.lit (.lit (.lit (.lit (.fork (.lit (.lit (.lit (.lit (.lit (.lit (.lit (.lit (.all))))))))) (.lit (.lit (.lit (.fork (.lit (.lit (.lit (.lit (.all))))) (.lit (.lit (.lit (.fork (.all) (.all))))))))))))))))))) (.all)
noncomputable def rt1_t (us ts us2 ts2 : List (Int × Int × Int)) (i : Int) : Tree Stop :=
   .node (decide (i < ((ts.length : Int) : Int)))
 (.node (noTri us ts i)
  (.node (noTri us2 ts2 i)
   (.leaf (Stop.done (SV.bool false)))
   (.leaf (Stop.done (SV.bool false))))
  (.node (noTri us2 ts2 i)
   (.leaf (Stop.done (SV.bool false)))
   (.node (!((nth3 us (nth3 ts i).fst).fst == (nth3 us2 (nth3 ts2 i).fst).fst && ((nth3 us (nth3 ts i).fst).snd.fst == (nth3 us2 (nth3 ts2 i).fst).snd.fst && ((nth3 us (nth3 ts i).fst).snd.snd == (nth3 us2 (nth3 ts2 i).fst).snd.snd && true))))
    (.leaf (Stop.done (SV.bool false)))
    (.node (!((nth3 us (nth3 ts i).snd.fst).fst == (nth3 us2 (nth3 ts2 i).snd.fst).fst && ((nth3 us (nth3 ts i).snd.fst).snd.fst == (nth3 us2 (nth3 ts2 i).snd.fst).snd.fst && ((nth3 us (nth3 ts i).snd.fst).snd.snd == (nth3 us2 (nth3 ts2 i).snd.fst).snd.snd && true))))
     (.leaf (Stop.done (SV.bool false)))
     (.node (!((nth3 us (nth3 ts i).snd.snd).fst == (nth3 us2 (nth3 ts2 i).snd.snd).fst && ((nth3 us (nth3 ts i).snd.snd).snd.fst == (nth3 us2 (nth3 ts2 i).snd.snd).snd.fst && ((nth3 us (nth3 ts i).snd.snd).snd.snd == (nth3 us2 (nth3 ts2 i).snd.snd).snd.snd && true))))
      (.leaf (Stop.done (SV.bool false)))
      (.leaf (Stop.at (loopOf Tryd.prog 5 0) 120 (slotsS 120 [(1, SV.ptr 0 0), (5, SV.ptr 1 0), (8, I64 (IntKind.i64.wrap (i + 1)))]) [some (Box.cells [SV.list v3 us, SV.list v3 ts]), some (Box.cells [SV.list v3 us2, SV.list v3 ts2])])))))))
 (.leaf (Stop.done (SV.bool true)))
theorem rt1 (us ts us2 ts2 : List (Int × Int × Int)) (i : Int) : segR (Env.of Tryd.prog (sumOf [fAwake, fPrint, fParseQ, fCheck, fCorners])) 1000 (fnOf Tryd.prog 5) .unit (keepS 120 [1,5,8]) (loopOf Tryd.prog 5 0) rt1_p (slotsS 120 [(1, .ptr 0 0), (5, .ptr 1 0), (8, I64 i)]) [some (.cells [.list v3 us, .list v3 ts]), some (.cells [.list v3 us2, .list v3 ts2])] = rt1_t us ts us2 ts2 i := by kernel_rfl
def ca0_p : Plan := .fork (.all) (.fork (.fork (.lit (.lit (.lit (.lit (.fork (.lit (.all)) (.lit (.all))))))) (.lit (.lit (.lit (.lit (.lit (.lit (.all)))))))) (.fork (.lit (.lit (.fork (.lit (.lit (.fork (.lit (.lit (.fork (.lit (.lit (.lit (.fork (.lit (.all)) (.lit (.all)))))) (.lit (.lit (.lit (.lit (.lit (.all))))))))) (.lit (.lit (.lit (.lit (.lit (.lit (.lit (.lit (.all)))))))))))) (.lit (.lit (.lit (.lit (.lit (.lit (.lit (.lit (.lit (.lit (.lit (.all))))))))))))))) (.lit (.lit (.lit (.lit (.lit (.lit (.lit (.lit (.lit (.lit (.lit (.lit (.lit (.lit (.all)))))))))))))))))
noncomputable def ca0_t (s : List UInt8) : Tree Stop :=
   .node (decide (((↑s.length : Int) : Int) > 3000))
 (.leaf (Stop.done (SV.bool true)))
 (.node (mE s != 0)
  (.node ((↑(mU s).length : Int) == 0)
   (.node ((↑(mT s).length : Int) == 0)
    (.leaf (Stop.done (SV.bool true)))
    (.leaf (Stop.done (SV.bool false))))
   (.leaf (Stop.done (SV.bool false))))
  (.node (mL s == 0)
   (.node ((printT (mU s) (mT s)).snd == 0)
    (.node (mL (printT (mU s) (mT s)).fst == 0)
     (.node (mE (printT (mU s) (mT s)).fst == 0)
      (.req (decide ((mU s).length ≤ 100000) && decide ((mT s).length ≤ 100000)) (.node (sameB (mU s) (mT s) (mU (printT (mU s) (mT s)).fst) (mT (printT (mU s) (mT s)).fst))
        (.leaf (Stop.done (SV.bool true)))
        (.leaf (Stop.done (SV.bool false)))))
      (.leaf (Stop.done (SV.bool false))))
     (.leaf (Stop.done (SV.bool false))))
    (.leaf (Stop.done (SV.bool false))))
   (.leaf (Stop.done (SV.bool false)))))
theorem ca0 (s : List UInt8) : segR (Env.of Tryd.prog (sumOf [fAwake, fPrint, fParseQ, fSame])) 1000 (fnOf Tryd.prog 6) .unit (keepS 90 []) (codeS Tryd.prog 6) ca0_p (startS Tryd.prog 6 [.str s]) [] = ca0_t s := by kernel_rfl
end Go.Proofs.YtlhkgeoahblffaaDoor
set_option linter.unusedSimpArgs false
set_option linter.unusedVariables false
set_option maxRecDepth 100000
namespace Go.Proofs.YtlhkgeoahblffaaDoor
open Go.Sx

/-! ### The mesh that is read -/

theorem tri_id {i : Nat} (h : i ≤ 200000) : tri (i : Int) = ((i : Int), ((i + 1 : Nat) : Int), ((i + 2 : Nat) : Int)) := by
  unfold tri
  have a := wr64_id (k := (i : Int) + 1) (by omega) (by omega)
  have b := wr64_id (k := (i : Int) + 2) (by omega) (by omega)
  unfold wr64 at a b
  rw [a, b]
  rfl
theorem nth3_get {l : List T3} {i : Nat} (h : i < l.length) : nth3 l (i : Int) = l[i] := by
  show List.getD (α := T3) l i (0, 0, 0) = _
  rw [List.getD_eq_getElem?_getD, List.getElem?_eq_getElem h]; rfl
theorem nth3_app_left {a b : List T3} {i : Nat} (h : i < a.length) : nth3 (a ++ b) (i : Int) = nth3 a (i : Int) := by
  rw [nth3_get h, nth3_get (by rw [List.length_append]; omega), List.getElem_append_left h]
theorem nth3_app_right {a b : List T3} {i : Nat} (h : i < b.length) : nth3 (a ++ b) ((a.length + i : Nat) : Int) = nth3 b (i : Int) := by
  rw [nth3_get h, nth3_get (by rw [List.length_append]; omega), List.getElem_append_right (by omega)]
  congr 1; omega
theorem nth3_tsOf : ∀ (n b i : Nat), i < n → b + 3 * n ≤ 200000 → nth3 (tsOf b n) (i : Int) = tri ((b + 3 * i : Nat) : Int)
  | 0, _, _, h, _ => absurd h (Nat.not_lt_zero _)
  | n + 1, b, 0, _, _ => rfl
  | n + 1, b, i + 1, h, hb => by
    rw [tsOf]
    have := nth3_app_right (a := [tri (b : Int)]) (b := tsOf (b + 3) n) (i := i) (by rw [tsOf_len]; omega)
    simp only [List.length_cons, List.length_nil] at this
    rw [show i + 1 = 0 + 1 + i by omega]
    refine this.trans ?_
    rw [nth3_tsOf n (b + 3) i (by omega) (by omega)]
    congr 1; omega
theorem nth3_vsOf (us : List T3) : ∀ (l : List T3) (i j : Nat), i < l.length → j < 3 → nth3 (vsOf us l) ((3 * i + j : Nat) : Int) = nth3 (vs3 us (nth3 l (i : Int))) (j : Int)
  | [], _, _, h, _ => absurd h (Nat.not_lt_zero _)
  | t :: l, 0, j, _, hj => by
    rw [vsOf, show 3 * 0 + j = j by omega]
    exact nth3_app_left (by simp [vs3]; omega)
  | t :: l, i + 1, j, h, hj => by
    rw [vsOf]
    have := nth3_app_right (a := vs3 us t) (b := vsOf us l) (i := 3 * i + j) (by rw [vsOf_len]; simp at h; omega)
    rw [show (vs3 us t).length = 3 from rfl] at this
    rw [show 3 * (i + 1) + j = 3 + (3 * i + j) by omega]
    refine this.trans ?_
    rw [nth3_vsOf us l i j (by simpa using h) hj]
    have e : nth3 (t :: l) ((i + 1 : Nat) : Int) = nth3 l (i : Int) := by
      have h1 : i < l.length := by simpa using h
      rw [nth3_get h1, nth3_get (by simp; omega)]; rfl
    rw [e]

/-- Meshes as Parse makes them. -/
def canonM (us ts : List T3) : Prop := us.all inR = true ∧ ts = tsOf 0 ts.length ∧ us.length = 3 * ts.length
theorem tsOf_ok : ∀ (n b m : Nat), b + 3 * n ≤ m → m ≤ 200000 → (tsOf b n).all (okT (m : Int)) = true
  | 0, _, _, _, _ => rfl
  | n + 1, b, m, h, hm => by
    rw [tsOf, List.all_cons, tsOf_ok n (b + 3) m (by omega) hm, Bool.and_true, okT_iff, tri_id (by omega)]
    dsimp only
    omega
theorem canon_chk {us ts : List T3} (h : canonM us ts) (hn : us.length ≤ 4096) : chk us ts = 0 := by
  obtain ⟨h1, h2, h3⟩ := h
  unfold chk
  rw [if_neg (by omega)]
  unfold eV
  rw [if_pos h1]
  unfold eT
  rw [if_pos]
  rw [h2]
  exact tsOf_ok ts.length 0 us.length (by omega) (by omega)
theorem vs3_tri {us : List T3} {b : Nat} (h : b + 3 ≤ us.length) (hb : us.length ≤ 200000) : vs3 us (tri (b : Int)) = (us.drop b).take 3 := by
  rw [tri_id (by omega)]
  unfold vs3
  dsimp only
  rw [drop3 (show b < us.length by omega), drop3 (show b + 1 < us.length by omega), drop3 (show b + 1 + 1 < us.length by omega)]
  rfl
theorem vsOf_tsOf {us : List T3} (hb : us.length ≤ 200000) : ∀ (n b : Nat), b + 3 * n = us.length → vsOf us (tsOf b n) = us.drop b
  | 0, b, h => by rw [tsOf, vsOf, List.drop_eq_nil_of_le (by omega)]
  | n + 1, b, h => by
    rw [tsOf, vsOf, vs3_tri (by omega) hb, vsOf_tsOf hb n (b + 3) (by omega)]
    have : us.drop (b + 3) = (us.drop b).drop 3 := by rw [List.drop_drop]
    rw [this, List.take_append_drop]
theorem vsOf_canon (us : List T3) (hv : us.all inR = true) (ts : List T3) (hc : chk us ts = 0) : canonM (vsOf us ts) (tsOf 0 ts.length) := by
  refine ⟨?_, by rw [tsOf_len], by rw [vsOf_len, tsOf_len]⟩
  have h4 := List.all_eq_true.1 (chk0 hc).2.2.2
  have hv := List.all_eq_true.1 hv
  have : ∀ l : List T3, (∀ t ∈ l, okT us.length t = true) → (vsOf us l).all inR = true := by
    intro l
    induction l with
    | nil => intro _; rfl
    | cons t l ih =>
      intro h
      obtain ⟨⟨a1, a2⟩, ⟨b1, b2⟩, c1, c2⟩ := okT_iff.1 (h t List.mem_cons_self)
      rw [vsOf, List.all_append, ih fun t ht => h t (List.mem_cons_of_mem _ ht), Bool.and_true]
      simp [vs3, hv _ (nth3_mem a1 a2), hv _ (nth3_mem b1 b2), hv _ (nth3_mem c1 c2)]
  exact this ts h4

/-! ### What Parse answers to a text of Print -/

theorem mRes_print {us ts : List T3} (hc : chk us ts = 0) (hl : ((printL us ts).length : Int) ≤ 65536) : mU (printL us ts) = vsOf us ts ∧ mT (printL us ts) = tsOf 0 ts.length ∧ mL (printL us ts) = 0 ∧ mE (printL us ts) = 0 := by
  unfold mU mT mL mE mRes
  rw [if_neg (by omega), rL_print hc]
  exact ⟨rfl, rfl, rfl, rfl⟩
theorem print_len (us ts : List T3) : (printL us ts).length ≤ 15 + 250 * ts.length := by
  have := bodyText_len us ts
  simp only [printL, solidB, endsolidB, List.length_append, List.length_cons, List.length_nil]; omega

theorem kRT : Known Tryd.prog (Env.of Tryd.prog (sumOf [fAwake, fPrint, fParseQ, fCheck, fCorners])) := hK (l := [fAwake, fPrint, fParseQ, fCheck, fCorners]) ⟨o_awake, o_print, o_parseQ, o_check, o_corners, trivial⟩

theorem rt_loop (us ts : List T3) (hc : chk us ts = 0) (hn : ts.length ≤ 40) (hc2 : chk (vsOf us ts) (tsOf 0 ts.length) = 0) : ∀ (n i : Nat), i + n = ts.length → RunsR Tryd.prog (fnOf Tryd.prog 5) (.bool true) (loopOf Tryd.prog 5 0) (slotsS 120 [(1, .ptr 0 0), (5, .ptr 1 0), (8, I64 (i : Int))]) [some (.cells [.list v3 us, .list v3 ts]), some (.cells [.list v3 (vsOf us ts), .list v3 (tsOf 0 ts.length)])]
  | n, i, hi => by
    refine runsR_seg kRT (n := 1000) (hint := .unit) (keep := keepS 120 [1,5,8]) (p := rt1_p) rfl ?_
    erw [rt1 us ts (vsOf us ts) (tsOf 0 ts.length) (i : Int)]
    unfold rt1_t
    rw [nth3_eq, nth3_eq, nth3_eq]
    match n, hi with
    | 0, hi =>
      exact ⟨fun h => absurd (of_decide_eq_true h) (by omega), fun _ => rfl⟩
    | n + 1, hi =>
      have hl : i < ts.length := by omega
      have e1 : noTri us ts (i : Int) = false := noTri_f hc hl
      have e2 : noTri (vsOf us ts) (tsOf 0 ts.length) (i : Int) = false := noTri_f hc2 (by rw [tsOf_len]; exact hl)
      have e3 : nth3 (tsOf 0 ts.length) (i : Int) = tri ((0 + 3 * i : Nat) : Int) := nth3_tsOf ts.length 0 i hl (by omega)
      rw [tri_id (by omega), show 0 + 3 * i = 3 * i + 0 by omega] at e3
      have a := nth3_vsOf us ts i 0 hl (by omega)
      have b := nth3_vsOf us ts i 1 hl (by omega)
      have c := nth3_vsOf us ts i 2 hl (by omega)
      rw [e1, e2, e3]
      dsimp only
      rw [a, show 3 * i + 0 + 1 = 3 * i + 1 by omega, b, show 3 * i + 0 + 2 = 3 * i + 2 by omega, c]
      have f0 : nth3 (vs3 us (nth3 ts (i : Int))) ((0 : Nat) : Int) = nth3 us (nth3 ts (i : Int)).1 := rfl
      have f1 : nth3 (vs3 us (nth3 ts (i : Int))) ((1 : Nat) : Int) = nth3 us (nth3 ts (i : Int)).2.1 := rfl
      have f2 : nth3 (vs3 us (nth3 ts (i : Int))) ((2 : Nat) : Int) = nth3 us (nth3 ts (i : Int)).2.2 := rfl
      rw [f0, f1, f2]
      refine ⟨fun _ => ⟨fun h => (by cases h), fun _ => ⟨fun h => (by cases h), fun _ => ⟨fun h => absurd h (by simp), fun _ => ⟨fun h => absurd h (by simp), fun _ => ⟨fun h => absurd h (by simp), fun _ => ⟨slotsS_len _ _, ?_⟩⟩⟩⟩⟩⟩, fun h => absurd (of_decide_eq_false h) (by omega)⟩
      rw [wr1 (by omega)]
      exact rt_loop us ts hc hn hc2 n (i + 1) (by omega)

theorem s_lawRoundTrips (us ts : List T3) : SCall Tryd.prog 5 [.agg [.list v3 us, .list v3 ts]] (.bool true) := by
  refine scallR_loops rfl rfl (by kernel_rfl) (runsR_seg kRT (n := 1000) (hint := .unit) (keep := keepS 120 [1,5,8]) (p := rt0_p) (boxes := []) rfl ?_)
  have e := rt0 us ts
  unfold startS codeS at e
  erw [e]
  unfold rt0_t
  refine ⟨fun h1 => ⟨fun _ => rfl, fun h2 => ?_⟩, fun _ => rfl⟩
  have h1 := of_decide_eq_true h1
  have h1 : ts.length ≤ 40 := by omega
  have pl := print_len us ts
  by_cases hc : chk us ts = 0
  · have ep : printT us ts = (printL us ts, 0) := by
      unfold printT; rw [if_pos hc, if_neg (by omega)]
    obtain ⟨m1, m2, m3, m4⟩ := mRes_print hc (by omega)
    have hcan := vsOf_canon us (chk0 hc).2.2.1 ts hc
    have hc2 : chk (vsOf us ts) (tsOf 0 ts.length) = 0 := canon_chk hcan (by rw [vsOf_len]; omega)
    rw [ep]
    dsimp only
    rw [m1, m2, m3, m4, hc2, tsOf_len, vsOf_len]
    refine ⟨fun h => absurd h (by decide), fun _ => ⟨fun h => absurd h (by decide), fun _ => ⟨fun h => absurd h (by decide), fun _ => ⟨fun h => absurd h (by simp), fun _ => ⟨fun h => ?_, fun _ => ⟨fun h => absurd h (by decide), fun _ => ⟨slotsS_len _ _, ?_⟩⟩⟩⟩⟩⟩⟩
    · have e3 := wr64_id (k := 3 * (ts.length : Int)) (by omega) (by omega)
      unfold wr64 at e3
      rw [e3] at h
      simp at h
    · exact rt_loop us ts hc h1 hc2 ts.length 0 (by omega)
  · have ep : printT us ts = ([], chk us ts) := by
      unfold printT; rw [if_neg hc]
    rw [ep]
    refine ⟨fun _ => ⟨fun _ => ⟨fun _ => rfl, fun h => absurd h (by simp)⟩, fun h => absurd h (by simp)⟩, fun h => absurd h (by simpa using hc)⟩

/-! ### StlCanonical -/

/-- The invariant of the reader. -/
def Jr (t : Nat) (us ts : List T3) : Prop := us.all inR = true ∧ ts = tsOf 0 ts.length ∧ t ≤ 6 ∧ us.length = 3 * ts.length + (if t ≤ 2 ∨ t = 6 then 0 else t - 2)
theorem tsOf_snoc : ∀ (n b : Nat), tsOf b (n + 1) = tsOf b n ++ [tri ((b + 3 * n : Nat) : Int)]
  | 0, b => by simp [tsOf]
  | n + 1, b => by
    rw [tsOf, tsOf_snoc n (b + 3)]
    conv => rhs; rw [tsOf]
    rw [List.cons_append, show b + 3 + 3 * n = b + 3 * (n + 1) by omega]
theorem cTri_in {w : List (List UInt8)} (h : cErr w = 0) : inR (cTri w) = true := by
  obtain ⟨_, _, _, _, _, h1, h2, h3⟩ := cErr_zero.1 h
  unfold badN at h1 h2 h3
  simp only [Bool.or_eq_false_iff, decide_eq_false_iff_not] at h1 h2 h3
  simp only [inR, cTri, Bool.and_eq_true, decide_eq_true_eq]
  refine ⟨?_, ?_, ?_, ?_, ?_, ?_⟩ <;> first | exact decide_eq_true (Int.not_lt.1 h1.2.1) | exact decide_eq_true (Int.not_lt.1 h1.2.2) | exact decide_eq_true (Int.not_lt.1 h2.2.1) | exact decide_eq_true (Int.not_lt.1 h2.2.2) | exact decide_eq_true (Int.not_lt.1 h3.2.1) | exact decide_eq_true (Int.not_lt.1 h3.2.2)
theorem all_snoc {us : List T3} {x : T3} (h : us.all inR = true) (hx : inR x = true) : (us ++ [x]).all inR = true := by
  rw [List.all_append, h]; simp [hx]
theorem Jr_step {t : Nat} {us ts : List T3} {w : List (List UInt8)} {t' : Nat} {us' ts' : List T3} (hJ : Jr t us ts) (hl : us.length ≤ 150000) (h : rstep t us ts w = .ok t' us' ts') : Jr t' us' ts' := by
  obtain ⟨j1, j2, j3, j4⟩ := hJ
  match t, j3 with
  | 0, _ =>
    rw [rstep0] at h
    split at h
    · injection h with e1 e2 e3; subst e1 e2 e3
      exact ⟨j1, j2, by omega, j4⟩
    · cases h
  | 1, _ =>
    rw [rstep1] at h
    split at h
    · injection h with e1 e2 e3; subst e1 e2 e3
      exact ⟨j1, j2, by omega, j4⟩
    · split at h
      · injection h with e1 e2 e3; subst e1 e2 e3
        exact ⟨j1, j2, by omega, j4⟩
      · cases h
  | 2, _ =>
    rw [rstep2] at h
    split at h
    · rename_i hc
      injection h with e1 e2 e3; subst e1 e2 e3
      exact ⟨all_snoc j1 (cTri_in hc), j2, by omega, by rw [List.length_append, j4]; simp⟩
    · cases h
  | 3, _ =>
    rw [rstep3] at h
    split at h
    · rename_i hc
      injection h with e1 e2 e3; subst e1 e2 e3
      exact ⟨all_snoc j1 (cTri_in hc), j2, by omega, by rw [List.length_append, j4]; simp⟩
    · cases h
  | 4, _ =>
    rw [rstep4] at h
    split at h
    · rename_i hc
      injection h with e1 e2 e3; subst e1 e2 e3
      exact ⟨all_snoc j1 (cTri_in hc), j2, by omega, by rw [List.length_append, j4]; simp⟩
    · cases h
  | 5, _ =>
    rw [rstep5] at h
    split at h
    · injection h with e1 e2 e3; subst e1 e2 e3
      simp at j4
      have e : triE us = tri ((0 + 3 * ts.length : Nat) : Int) := by
        obtain ⟨us0, hus0⟩ : ∃ us0 : List T3, us0.length = 3 * ts.length := ⟨List.replicate (3 * ts.length) (0, 0, 0), List.length_replicate⟩
        have := tri_triE (us := us0) (us2 := us) (by omega) (by omega)
        rw [this, hus0]; congr 1; omega
      refine ⟨j1, ?_, by omega, ?_⟩
      · rw [List.length_append, List.length_singleton, tsOf_snoc, e, ← j2]
      · rw [List.length_append, List.length_singleton, j4]; simp; omega
    · cases h
  | 6, _ => cases h
  | t + 7, h => omega

theorem wsplit_count : ∀ (l cur : List UInt8), 2 * (wsplit cur l).length ≤ (if cur = [] then 1 else 2) + l.length
  | [], cur => by
    unfold wsplit
    split <;> simp
  | b :: t, cur => by
    unfold wsplit
    have h1 := wsplit_count t []
    rw [if_pos rfl] at h1
    split
    · split
      · rw [List.length_cons]; omega
      · rw [List.length_cons, List.length_cons]; omega
    · have h2 := wsplit_count t (cur ++ [b])
      rw [if_neg (by simp)] at h2
      rw [List.length_cons]
      split <;> omega
theorem flds_count (l : List UInt8) : 2 * (flds l).length ≤ 1 + l.length := by
  rw [flds_eq]
  have := wsplit_count l []
  rwa [if_pos rfl] at this
theorem rstep_v {t : Nat} {us ts : List T3} {w : List (List UInt8)} {t' : Nat} {us' ts' : List T3} (h : rstep t us ts w = .ok t' us' ts') : us'.length ≤ us.length ∨ (us'.length = us.length + 1 ∧ w.length = 4) := by
  unfold rstep at h
  repeat' split at h
  all_goals first
    | (cases h; done)
    | (injection h with h1 h2 h3; subst h2 h3; exact .inl (Nat.le_refl _))
    | (rename_i hc; injection h with h1 h2 h3; subst h2 h3; exact .inr ⟨by simp, (cErr_zero.1 hc).1⟩)
def sumL : List (List UInt8) → Nat
  | [] => 0
  | x :: l => x.length + 1 + sumL l
theorem first10 : ∀ (s : List UInt8), (10 : UInt8) ∈ s → ∃ a b, s = a ++ 10 :: b ∧ (10 : UInt8) ∉ a
  | [], h => by cases h
  | x :: s, h => by
    by_cases hx : x = 10
    · subst hx; exact ⟨[], s, rfl, List.not_mem_nil⟩
    · obtain ⟨a, b, rfl, h2⟩ := first10 s ((List.mem_cons.1 h).resolve_left fun e => hx e.symm)
      exact ⟨x :: a, b, rfl, fun hm => by rcases List.mem_cons.1 hm with e | e; exact hx e.symm; exact h2 e⟩
theorem lns_sum : ∀ (n : Nat) (s : List UInt8), s.length < n → sumL (lns s) ≤ s.length + 1
  | 0, s, h => absurd h (Nat.not_lt_zero _)
  | n + 1, s, h => by
    by_cases h0 : s = []
    · subst h0; rw [lns_nil]; exact Nat.zero_le _
    · have hp : 0 < s.length := List.length_pos_iff.2 h0
      by_cases h10 : (10 : UInt8) ∈ s
      · obtain ⟨a, b, rfl, ha⟩ := first10 s h10
        rw [lns_line ha, sumL]
        have := lns_sum n b (by simp at h; omega)
        simp only [List.length_append, List.length_cons]; omega
      · obtain ⟨e1, e2⟩ := cut_miss h10
        rw [lns_cons h0, e1, e2, lns_nil, sumL, sumL]; omega
theorem rL_canon : ∀ (l : List (List UInt8)) (k : Int) (t : Nat) (us ts us' ts' : List T3), Jr t us ts → us.length + l.length ≤ 150000 → rL l k t us ts = .ok us' ts' → canonM us' ts' ∧ 8 * us'.length ≤ 8 * us.length + sumL l
  | [], k, t, us, ts, us', ts', hJ, _, h => by
    rw [rL] at h
    split at h
    · rename_i h6
      injection h with e1 e2
      subst e1 e2 h6
      obtain ⟨j1, j2, _, j4⟩ := hJ
      exact ⟨⟨j1, j2, by simpa using j4⟩, by omega⟩
    · cases h
  | x :: l, k, t, us, ts, us', ts', hJ, hl, h => by
    rw [List.length_cons] at hl
    rw [rL] at h
    rw [sumL]
    split at h
    · obtain ⟨a, b⟩ := rL_canon l (k + 1) t us ts us' ts' hJ (by omega) h
      exact ⟨a, by omega⟩
    · cases hr : rstep t us ts (flds x) with
      | err e => rw [hr] at h; cases h
      | ok t2 us2 ts2 =>
        rw [hr] at h
        have a1 := rstep_len hr
        obtain ⟨a, b⟩ := rL_canon l (k + 1) t2 us2 ts2 us' ts' (Jr_step hJ (by omega) hr) (by omega) h
        refine ⟨a, ?_⟩
        have := flds_count x
        rcases rstep_v hr with h1 | ⟨h1, h2⟩ <;> omega
theorem mRes_canon {s : List UInt8} (hs : s.length ≤ 3000) (he : mE s = 0) : canonM (mU s) (mT s) ∧ mL s = 0 ∧ 8 * (mU s).length ≤ 3001 := by
  unfold mE mU mT mL mRes at *
  rw [if_neg (by omega)] at *
  cases hr : rL (lns s) 0 0 [] [] with
  | err k e =>
    rw [hr] at he
    have he : e = 0 := he
    subst he
    exfalso
    have : ∀ (l : List (List UInt8)) (k : Int) (t : Nat) (us ts : List T3) (k2 : Int), rL l k t us ts ≠ .err k2 0 := by
      intro l
      induction l with
      | nil => intro k t us ts k2 h; rw [rL] at h; split at h <;> cases h
      | cons x l ih =>
        intro k t us ts k2 h
        rw [rL] at h
        split at h
        · exact ih _ _ _ _ _ h
        · cases hq : rstep t us ts (flds x) with
          | err e =>
            rw [hq] at h
            injection h with h1 h2
            subst h2
            unfold rstep at hq
            repeat' split at hq
            all_goals first
              | (cases hq; done)
              | (rename_i hc; injection hq with hq; exact hc hq)
          | ok t2 us2 ts2 => rw [hq] at h; exact ih _ _ _ _ _ h
    exact this _ _ _ _ _ _ hr
  | ok us ts =>
    have l1 := lns_sum (s.length + 1) s (Nat.lt_succ_self _)
    have l2 := (lns_small (s.length + 1) s (Nat.lt_succ_self _) (small_iff.2 (by omega))).2
    obtain ⟨a, b⟩ := rL_canon (lns s) 0 0 [] [] us ts ⟨rfl, rfl, by omega, rfl⟩ (by simp; omega) hr
    exact ⟨a, rfl, by show 8 * us.length ≤ 3001; simp at b; omega⟩
theorem mRes_err {s : List UInt8} (he : ¬ mE s = 0) : mU s = [] ∧ mT s = [] := by
  unfold mE mU mT at *
  cases hr : mRes s with
  | err k e => exact ⟨rfl, rfl⟩
  | ok us ts => rw [hr] at he; exact absurd rfl he
/-- What is printed of a mesh that was read, and read again. -/
theorem again {s : List UInt8} (hs : s.length ≤ 3000) (he : mE s = 0) : printT (mU s) (mT s) = (printL (mU s) (mT s), 0) ∧ mU (printL (mU s) (mT s)) = mU s ∧ mT (printL (mU s) (mT s)) = mT s ∧ mL (printL (mU s) (mT s)) = 0 ∧ mE (printL (mU s) (mT s)) = 0 ∧ chk (mU s) (mT s) = 0 := by
  obtain ⟨h1, h2, h3⟩ := mRes_canon hs he
  have hc : chk (mU s) (mT s) = 0 := canon_chk h1 (by omega)
  have pl := print_len (mU s) (mT s)
  obtain ⟨c1, c2, c3⟩ := h1
  obtain ⟨m1, m2, m3, m4⟩ := mRes_print hc (by omega)
  refine ⟨?_, ?_, ?_, m3, m4, hc⟩
  · unfold printT; rw [if_pos hc, if_neg (by omega)]
  · rw [m1]
    conv => lhs; rw [c2]
    rw [vsOf_tsOf (by omega) _ 0 (by omega)]; rfl
  · rw [m2, ← c2]
theorem s_lawCanonical (s : List UInt8) : SCall Tryd.prog 6 [.str s] (.bool true) := by
  have kC : Known Tryd.prog (Env.of Tryd.prog (sumOf [fAwake, fPrint, fParseQ, fSame])) := hK (l := [fAwake, fPrint, fParseQ, fSame]) ⟨o_awake, o_print, o_parseQ, o_same, trivial⟩
  refine scallR_loops rfl rfl (by kernel_rfl) (runsR_seg kC (n := 1000) (hint := .unit) (keep := keepS 90 []) (p := ca0_p) (boxes := []) rfl ?_)
  have e := ca0 s
  unfold startS codeS at e
  erw [e]
  unfold ca0_t
  refine ⟨fun _ => rfl, fun h => ?_⟩
  have hs : s.length ≤ 3000 := by have := of_decide_eq_false h; omega
  refine ⟨fun h1 => ?_, fun h1 => ?_⟩
  · obtain ⟨e1, e2⟩ := mRes_err (s := s) (by simpa using h1)
    rw [e1, e2]
    exact ⟨fun _ => ⟨fun _ => rfl, fun h => absurd h (by decide)⟩, fun h => absurd h (by decide)⟩
  · have he : mE s = 0 := by simpa using h1
    obtain ⟨q1, q2, q3, q4, q5, q6⟩ := again hs he
    have hl := (mRes_canon hs he).2.1
    have hm := m_len s
    rw [q1]
    dsimp only
    rw [q2, q3, q4, q5, hl, same_self]
    exact ⟨fun _ => ⟨fun _ => ⟨fun _ => ⟨fun _ => ⟨by simp; omega, fun _ => rfl, fun h => (by cases h)⟩, fun h => (by cases h)⟩, fun h => (by cases h)⟩, fun h => (by cases h)⟩, fun h => (by cases h)⟩
end Go.Proofs.YtlhkgeoahblffaaDoor
