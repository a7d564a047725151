/-
  J: the parser's word and vertex: contracts, and facts of them.
  K: the words of a line, by bytes; the parser's vertex as a fact.
  Sx35: the segments of functions with deferred calls: which slots name which boxes at the end is known too.
  Sx36: a deferred call that may recover, behind a function's code.
  GP: the segments of Parse. Written by gen.py.
  GQ: the segments of the call that Parse defers. Written by gen.py.
  L: what Parse computes, and its contract.
  M: Parse: its contract.
  O: Parse: the deferred call and the contract.
  GR: the segments of the reference's lines, words and corner. Written by gen.py.
-/
import Derived.Test.YtlhkgeoahblffaaDoorZA7
import Derived.Lib.SpaceUEq
import Derived.Recover
set_option linter.unusedSimpArgs false
set_option linter.unusedVariables false
set_option maxRecDepth 100000
namespace Go.Proofs.YtlhkgeoahblffaaDoor
open Go.Sx

theorem nOkP : ∀ x ∈ [fNext], x.ok Tryd.prog := fun x hx => by
  rcases List.mem_singleton.1 hx with rfl
  exact o_next

/-! ### word -/

def wHit (v : List (List UInt8)) (l : List (List UInt8)) : Bool := v.length == 1 && l.contains (nthW v 0)
def finW (s : List UInt8) (k : Int) (v : List (List UInt8)) (b : Bool) : Fin := match b with
  | true => .ret (.str (nthW v 0)) [some (.cells [.str s, I64 k])]
  | false => .pan (prob k 5) [some (.cells [.str s, I64 k])]

theorem contains_drop {l : List (List UInt8)} {i : Nat} {x : List UInt8} (h : i < l.length) : (l.drop i).contains x = ((x == nthW l i) || (l.drop (i + 1)).contains x) := by
  have e : nthW l i = l[i] := by
    show l.getD i [] = _
    rw [List.getD_eq_getElem?_getD, List.getElem?_eq_getElem h]; rfl
  rw [List.drop_eq_getElem_cons h, List.contains_cons, e]

theorem word_loop (s : List UInt8) (k : Int) (l v : List (List UInt8)) (hl : l.length ≤ 1000) : ∀ (n i : Nat), i + n = l.length → RunsX Tryd.prog (fnOf Tryd.prog 35) [] 1 (finW s k v (v.length == 1 && (l.drop i).contains (nthW v 0))) (loopOf Tryd.prog 35 0) (slotsS 34 [(0, .ptr 0 0), (5, .list .str v), (10, .list .str l), (11, I64 (l.length : Int)), (12, I64 (i : Int))]) [some (.cells [.str s, I64 k])]
  | n, i, h => by
    refine runsX_seg (hB (l := []) [] [] [] [] trivial noneOk nOkP noneOk) (n := 1000) (keep := keepS 34 [0, 5, 10, 11, 12]) (p := wd1_p) (Nat.le_refl 1) ?_
    erw [wd1 s k l v (i : Int)]
    unfold wd1_t
    simp only [Tree.holds, Bool.not_eq_true', beq_eq_false_iff_ne, Bool.not_eq_false', beq_iff_eq, decide_eq_true_eq, decide_eq_false_iff_not, Bool.and_eq_true, Int.toNat_natCast]
    have wrap : IntKind.i64.wrap ((i : Int) + 1) = ((i + 1 : Nat) : Int) := by rw [i64_def]; split <;> omega
    have nextS : ∀ (hi : i < l.length), (nthW v 0 = nthW l i → ¬ v.length = 1) → RunsX Tryd.prog (fnOf Tryd.prog 35) [] 1 (finW s k v (v.length == 1 && (l.drop i).contains (nthW v 0))) (loopOf Tryd.prog 35 0) (slotsS 34 [(0, .ptr 0 0), (5, .list .str v), (10, .list .str l), (11, I64 (l.length : Int)), (12, I64 (IntKind.i64.wrap ((i : Int) + 1)))]) [some (.cells [.str s, I64 k])] := fun hi hno => by
      have ih := word_loop s k l v hl (n - 1) (i + 1) (by omega)
      have e : (v.length == 1 && (l.drop i).contains (nthW v 0)) = (v.length == 1 && (l.drop (i + 1)).contains (nthW v 0)) := by
        rw [contains_drop hi]
        by_cases h1 : v.length = 1
        · have : (nthW v 0 == nthW l i) = false := by
            rw [beq_eq_false_iff_ne]; exact fun c => hno c h1
          rw [this, Bool.false_or]
        · rw [beq_eq_false_iff_ne.2 h1, Bool.false_and, Bool.false_and]
      rw [e, wrap]
      exact ih
    refine ⟨fun h1 => ⟨⟨by omega, h1⟩, fun h2 => ⟨by omega, fun h3 => ?_, fun h3 => ?_⟩, fun h2 => ?_⟩, fun h1 => ?_⟩
    · have hi : i < l.length := by omega
      have h3 : nthW v 0 = nthW l i := h3
      have hb : (v.length == 1 && (l.drop i).contains (nthW v 0)) = true := by
        rw [contains_drop hi, Bool.and_eq_true]
        exact ⟨by rw [beq_iff_eq]; omega, by rw [Bool.or_eq_true]; exact .inl (by rw [beq_iff_eq]; exact h3)⟩
      rw [hb]
      show Fin.ret (SV.str (nthW l i)) _ = Fin.ret (SV.str (nthW v 0)) _
      rw [h3]
    · exact ⟨slotsS_len _ _, nextS (by omega) fun c => absurd c h3⟩
    · exact ⟨slotsS_len _ _, nextS (by omega) fun _ c => h2 (by omega)⟩
    · rw [List.drop_eq_nil_of_le (by omega)]
      have : (v.length == 1 && ([] : List (List UInt8)).contains (nthW v 0)) = false := by simp
      rw [this]
      rfl
termination_by n => n
decreasing_by all_goals omega

def wOk (s : List UInt8) (k : Int) (l : List (List UInt8)) : Bool := nOk s k && wHit (nWords s k) l
def wErr (s : List UInt8) (k : Int) : Int := if nOk s k = true then 5 else 6
def finWd (s : List UInt8) (k : Int) (l : List (List UInt8)) : Fin := match wOk s k l with
  | true => .ret (.str (nthW (nWords s k) 0)) [some (.cells [.str (nRest s k), I64 (nLine s k)])]
  | false => .pan (prob (nLine s k) (wErr s k)) [some (.cells [.str (nRest s k), I64 (nLine s k)])]

theorem word_runs (s : List UInt8) (k : Int) (l : List (List UInt8)) (hs : small s = true) (hl : l.length ≤ 1000) : RunsX Tryd.prog (fnOf Tryd.prog 35) [] 1 (finWd s k l) (codeS Tryd.prog 35) (startS Tryd.prog 35 [.ptr 0 0, .list .str l]) [some (.cells [.str s, I64 k])] := by
  refine runsX_seg (hB (l := []) [] [] [] [] trivial noneOk nOkP noneOk) (n := 1000) (keep := keepS 34 [0, 5, 10, 11, 12]) (p := wd0_p) (Nat.le_refl 1) ?_
  erw [wd0 s k l]
  refine ⟨hs, fun h1 => ⟨slotsS_len _ _, ?_⟩, fun h1 => ?_⟩
  · have := word_loop (nRest s k) (nLine s k) l (nWords s k) hl l.length 0 (Nat.zero_add _)
    unfold finWd wOk wErr wHit
    rw [h1, Bool.true_and]
    unfold finW at this
    rw [List.drop_zero] at this
    exact this
  · unfold finWd wOk wErr
    rw [h1, Bool.false_and]
    rfl

theorem arr_repR {w0 : World} {R0 : Nat → Prop} {ρ : Rho} {w : World} {m : Mem} (h : MRel w0 R0 ρ w m) {id off n : Nat} {cs : List SV} (hg : m.get id = some (.cells cs)) {u : Ty} {l : List u.T} (hl : unflatN u n ((cs.drop off).take (n * u.sz)) = some l) {v : Value}
    (hu : v = .slice (some ⟨(ρ id).1, off, none⟩) n n) {R : Nat → Prop} {ρ' : Rho} {n' : Nat} (hR : R (ρ id).1) (hro : ∀ b, RO w0 R0 ρ w m b → R b) : Rep R ρ' n' w (.list u l) v := by
  obtain ⟨arr, e, fr, k1, k2, k3⟩ := h.box id _ hg
  obtain ⟨hd1, hlen⟩ := unflatN_repDL hl ((k3.drop off).take (n * u.sz))
  refine ⟨some ⟨(ρ id).1, off, none⟩, n, by rw [hu, hlen], by omega, fun h0 => ⟨(ρ id).1, off, rfl, hR, fun i hi => ?_⟩⟩
  obtain ⟨ds, d1, d2, d3⟩ := hd1.elems i hi
  refine ⟨ds, d1, fun j hj => ?_, RepD.mono (fun b hb => ⟨hro b hb, rfl⟩) _ _ _ d3⟩
  rw [cell_of_row w _ _ arr e fr k1, ← d2 j hj]
  have hb : i * u.sz + j < n * u.sz := by
    have : (i + 1) * u.sz ≤ n * u.sz := Nat.mul_le_mul_right _ (by omega)
    rw [Nat.succ_mul] at this; omega
  dsimp only
  rw [List.getElem?_take, if_pos hb, List.getElem?_drop]
  simp

theorem word_ok35 (l : List (List UInt8)) : fnOk Tryd.prog 35 [.ptr 0 0, .list .str l] = true := by kernel_rfl

def wordsOf (cs : List SV) : Option (List (List UInt8)) := match cs with
  | [.str a] => some [a]
  | [.str a, .str b] => some [a, b]
  | _ => none
noncomputable def fWord : PFact := ⟨35, fun args m => match args with
  | [.ptr id off, .arr id2 off2 n] => match Nat.beq off 0 && (Nat.beq off2 0 && !(Nat.beq id id2)) with
    | true => match m.get id with
      | some (.cells [.str s, .int .i64 k]) => match m.get id2 with
        | some (.cells cs) => match wordsOf cs with
          | some l => match Nat.beq l.length n with
            | true => some (.req (small s) (.node (wOk s k l)
              (m.set id (some (.cells [.str (nRest s k), I64 (nLine s k)])) fun m' => .leaf (.ok (.str (nthW (nWords s k) 0)) m'))
              (m.set id (some (.cells [.str (nRest s k), I64 (nLine s k)])) fun m' => .leaf (.pan (prob (nLine s k) (wErr s k)) m'))))
            | false => none
          | none => none
        | _ => none
      | _ => none
    | false => none
  | _ => none⟩

theorem wordsOf_spec {cs : List SV} {l : List (List UInt8)} (h : wordsOf cs = some l) : l.length ≤ 2 ∧ unflatN .str l.length ((cs.drop 0).take (l.length * Ty.str.sz)) = some l := by
  unfold wordsOf at h
  split at h
  · injection h with h; subst h; exact ⟨Nat.le_of_ble_eq_true rfl, rfl⟩
  · injection h with h; subst h; exact ⟨Nat.le_of_ble_eq_true rfl, rfl⟩
  · cases h

theorem word_call {s : List UInt8} {k : Int} {l : List (List UInt8)} {cs : List SV} (hs : small s = true) (hw : wordsOf cs = some l) {m m' : Mem} {id id2 : Nat} (hid : id ≠ id2) (hb : m.get id = some (.cells [.str s, I64 k])) (hb2 : m.get id2 = some (.cells cs)) {r : Fin} (hr : finWd s k l = r)
    (hrb : r.boxes = [some (.cells [.str (nRest s k), I64 (nLine s k)])]) (flv : flatA r.val = true) (hm' : MSet m id (some (.cells [.str (nRest s k), I64 (nLine s k)])) m') : XCall Tryd.prog 35 [.ptr id 0, .arr id2 0 l.length] m (r.ex m') := by
  obtain ⟨hl, hu⟩ := wordsOf_spec hw
  have h := word_runs s k l hs (by omega)
  rw [hr] at h
  exact xcall_flat (word_ok35 l) h hrb hb rfl rfl flv hm'.2 hm'.1 fun w0 R0 ρ w vs mc hm hn hg hvs => by
    obtain ⟨u, us, rfl, ⟨h1, h2⟩, u2, us2, rfl, ⟨h3, h4⟩, h5⟩ := hvs
    have hro : ∀ b, RO w0 R0 ρ w m b → RO w0 R0 (fun _ => ρ id) w mc b := fun b hb' => by
      rcases hb' with hb' | ⟨k1, k2, k3⟩
      · exact .inl hb'
      · refine .inr ⟨k1, k2, fun j B hk hs => ?_⟩
        rw [hg j] at hk
        split at hk
        · injection hk with hk; subst hk; exact k3 id _ hb trivial
        · cases hk
    refine ⟨u, _, rfl, ⟨Nat.zero_lt_one, h2⟩, u2, us2, rfl, arr_repR hm hb2 hu h4 (.inr ⟨hm.lo id2 _ hb2 trivial, hm.hi id2 _ hb2 trivial, fun j B hk hs => ?_⟩) hro, h5⟩
    rw [hg j] at hk
    split at hk
    · exact fun c => hid (hm.inj id id2 _ _ hb hb2 trivial trivial c)
    · cases hk
theorem finWd_eq (s : List UInt8) (k : Int) (l : List (List UInt8)) : finWd s k l = match wOk s k l with
  | true => .ret (.str (nthW (nWords s k) 0)) [some (.cells [.str (nRest s k), I64 (nLine s k)])]
  | false => .pan (prob (nLine s k) (wErr s k)) [some (.cells [.str (nRest s k), I64 (nLine s k)])] := rfl
theorem o_word : fWord.ok Tryd.prog := fun args m t ht => by
  simp only [fWord] at ht
  split at ht
  · split at ht
    · rename_i id off id2 off2 n _ h0
      simp only [Bool.and_eq_true, Bool.not_eq_true'] at h0
      have e1 := Nat.eq_of_beq_eq_true h0.1
      have e2 := Nat.eq_of_beq_eq_true h0.2.1
      have hne : id ≠ id2 := fun c => by
        have := h0.2.2
        rw [c, Nat.beq_refl] at this; cases this
      subst e1 e2
      split at ht
      · rename_i s k hb
        split at ht
        · rename_i cs hb2
          split at ht
          · rename_i l hl
            split at ht
            · rename_i hn
              injection ht with ht; subst ht
              have hn := Nat.eq_of_beq_eq_true hn
              subst hn
              intro hs
              refine ⟨fun h1 => set_saysB fun m' hm' => ?_, fun h1 => set_saysB fun m' hm' => ?_⟩
              · have e := finWd_eq s k l
                rw [h1] at e
                exact word_call hs hl hne hb hb2 e rfl rfl hm'
              · have e := finWd_eq s k l
                rw [h1] at e
                exact word_call hs hl hne hb hb2 e rfl rfl hm'
            · cases ht
          · cases ht
        · cases ht
      · cases ht
    · cases ht
  · cases ht

/-! ### vertex -/

def badN (x : Int × Int) : Bool := x.2 != 0 || (decide (x.1 < -65536) || decide (x.1 > 65536))
/-- The error of a vertex's line. -/
def cErr (v : List (List UInt8)) : Int :=
  if v.length ≠ 4 then 5 else if nthW v 0 ≠ vertexB then 5
  else if (parseV (nthW v 1)).2 = 5 ∨ (parseV (nthW v 2)).2 = 5 ∨ (parseV (nthW v 3)).2 = 5 then 5
  else if badN (parseV (nthW v 1)) || (badN (parseV (nthW v 2)) || badN (parseV (nthW v 3))) then 8 else 0
def cVal (v : List (List UInt8)) : SV := .agg [I64 (parseV (nthW v 1)).1, I64 (parseV (nthW v 2)).1, I64 (parseV (nthW v 3)).1]
def finV (s : List UInt8) (k : Int) (v : List (List UInt8)) (e : Int) : Fin := if e = 0 then .ret (cVal v) [some (.cells [.str s, I64 k])] else .pan (prob k e) [some (.cells [.str s, I64 k])]
def vErr (s : List UInt8) (k : Int) : Int := if nOk s k = true then cErr (nWords s k) else 6

def vSt (v : List (List UInt8)) (o : Bool) (j : Int) : List SV := slotsS 78 [(0, .ptr 0 0), (2, .ptr 1 0), (3, .list .str v), (4, .ptr 2 0), (5, .bool o), (26, I64 j)]
abbrev RV (s : List UInt8) (k : Int) (r : Fin) (sl : List SV) (x y z : Int) : Prop := RunsX Tryd.prog (fnOf Tryd.prog 36) [] 1 r (loopOf Tryd.prog 36 0) sl [some (.cells [.str s, I64 k]), some (.cells [I64 0, I64 0, I64 0]), some (.cells [I64 x, I64 y, I64 z])]

theorem vx_fin (s : List UInt8) (k : Int) (v : List (List UInt8)) (o : Bool) (x y z : Int) : RV s k (if o = true then .pan (prob k 8) [some (.cells [.str s, I64 k])] else .ret (.agg [I64 x, I64 y, I64 z]) [some (.cells [.str s, I64 k])]) (vSt v o 3) x y z := by
  refine runsX_seg (hB (l := [fNP]) [] [] [] [] ⟨o_np, trivial⟩ noneOk nOkP noneOk) (n := 1000) (keep := keepS 78 [0, 2, 3, 4, 5, 26]) (p := vx4_p) (Nat.succ_le_succ (Nat.zero_le 2)) ?_
  erw [vx4 s k v o x y z]
  unfold vx4_t
  cases o with
  | true => exact ⟨fun _ => rfl, fun h => nomatch h⟩
  | false => exact ⟨fun h => (nomatch h), fun _ => ⟨rfl, rfl, rfl, rfl⟩⟩

/-- One turn. -/
theorem turn {L : StopX → Prop} {r : Int × Int} {o : Bool} {A : StopX} {B : Bool → StopX} (h5 : r.2 = 5 → L A) (hn : ∀ o', r.2 ≠ 5 → o' = (o || badN r) → L (B o')) :
    (Tree.node (r.2 == 5) (.leaf A) (.node o (.req true (.leaf (B true))) (.node (r.2 != 0) (.req true (.leaf (B true))) (.node (decide (r.1 < -65536)) (.req true (.leaf (B true))) (.req true (.leaf (B (decide (r.1 > 65536))))))))).holds L := by
  refine ⟨fun h => h5 (beq_iff_eq.1 h), fun h => ?_⟩
  have h := beq_eq_false_iff_ne.1 h
  refine ⟨fun h1 => ⟨rfl, hn _ h (by rw [h1, Bool.true_or])⟩, fun h1 => ⟨fun h2 => ⟨rfl, hn _ h (by unfold badN; rw [h1, h2]; rfl)⟩, fun h2 => ⟨fun h3 => ⟨rfl, hn _ h (by unfold badN; rw [h1, h2, h3]; rfl)⟩, fun h3 => ⟨rfl, hn _ h (by unfold badN; rw [h1, h2, h3]; rfl)⟩⟩⟩⟩

theorem cErr_zero {v : List (List UInt8)} : cErr v = 0 ↔ v.length = 4 ∧ nthW v 0 = vertexB ∧ (parseV (nthW v 1)).2 ≠ 5 ∧ (parseV (nthW v 2)).2 ≠ 5 ∧ (parseV (nthW v 3)).2 ≠ 5 ∧ badN (parseV (nthW v 1)) = false ∧ badN (parseV (nthW v 2)) = false ∧ badN (parseV (nthW v 3)) = false := by
  unfold cErr
  split
  · exact ⟨fun h => by omega, fun h => absurd h.1 ‹_›⟩
  · rename_i h4
    split
    · exact ⟨fun h => by omega, fun h => absurd h.2.1 ‹_›⟩
    · rename_i hv
      split
      · rename_i h5
        refine ⟨fun h => by omega, fun h => ?_⟩
        rcases h5 with h5 | h5 | h5
        · exact absurd h5 h.2.2.1
        · exact absurd h5 h.2.2.2.1
        · exact absurd h5 h.2.2.2.2.1
      · rename_i h5
        split
        · rename_i hb
          refine ⟨fun h => by omega, fun h => ?_⟩
          rw [h.2.2.2.2.2.1, h.2.2.2.2.2.2.1, h.2.2.2.2.2.2.2] at hb
          cases hb
        · rename_i hb
          simp only [Bool.not_eq_true, Bool.or_eq_false_iff] at hb
          exact ⟨fun _ => ⟨Decidable.not_not.1 h4, Decidable.not_not.1 hv, fun c => h5 (.inl c), fun c => h5 (.inr (.inl c)), fun c => h5 (.inr (.inr c)), hb.1, hb.2.1, hb.2.2⟩, fun _ => rfl⟩

theorem vx_loop (s : List UInt8) (k : Int) (v : List (List UInt8)) (hv : ∀ i, small (nthW v i) = true) (h4 : v.length = 4) (h0 : nthW v 0 = vertexB) : RV s k (finV s k v (cErr v)) (vSt v false 0) 0 0 0 := by
  have l1 : ¬ ¬ v.length = 4 := not_not_intro h4
  have e5 : ((parseV (nthW v 1)).2 = 5 ∨ (parseV (nthW v 2)).2 = 5 ∨ (parseV (nthW v 3)).2 = 5) → cErr v = 5 := fun h => by
    unfold cErr
    rw [if_neg l1, if_neg (not_not_intro h0), if_pos h]
  refine runsX_seg (hB (l := [fNP]) [] [] [] [] ⟨o_np, trivial⟩ noneOk nOkP noneOk) (n := 1000) (keep := keepS 78 [0, 2, 3, 4, 5, 26]) (p := vx1_p) (Nat.succ_le_succ (Nat.zero_le 2)) ?_
  erw [vx1 s k v false]
  unfold vx1_t
  refine ⟨decide_eq_true (by omega), hv 1, turn (B := fun o => StopX.at (loopOf Tryd.prog 36 0) 78 (vSt v o 1) [some (Box.cells [SV.str s, I64 k]), some (Box.cells [I64 0, I64 0, I64 0]), some (Box.cells [I64 (parseV (nthW v 1)).1, I64 0, I64 0])]) (fun h => ?_) fun o1 h1 ho1 => ⟨slotsS_len _ _, ?_⟩⟩
  · show Fin.pan (prob k (parseV (nthW v 1)).2) _ = _
    rw [h, e5 (.inl h)]; rfl
  refine runsX_seg (hB (l := [fNP]) [] [] [] [] ⟨o_np, trivial⟩ noneOk nOkP noneOk) (n := 1000) (keep := keepS 78 [0, 2, 3, 4, 5, 26]) (p := vx2_p) (Nat.succ_le_succ (Nat.zero_le 2)) ?_
  erw [vx2 s k v o1 (parseV (nthW v 1)).1]
  unfold vx2_t
  refine ⟨decide_eq_true (by omega), hv 2, turn (B := fun o => StopX.at (loopOf Tryd.prog 36 0) 78 (vSt v o 2) [some (Box.cells [SV.str s, I64 k]), some (Box.cells [I64 0, I64 0, I64 0]), some (Box.cells [I64 (parseV (nthW v 1)).1, I64 (parseV (nthW v 2)).1, I64 0])]) (fun h => ?_) fun o2 h2 ho2 => ⟨slotsS_len _ _, ?_⟩⟩
  · show Fin.pan (prob k (parseV (nthW v 2)).2) _ = _
    rw [h, e5 (.inr (.inl h))]; rfl
  refine runsX_seg (hB (l := [fNP]) [] [] [] [] ⟨o_np, trivial⟩ noneOk nOkP noneOk) (n := 1000) (keep := keepS 78 [0, 2, 3, 4, 5, 26]) (p := vx3_p) (Nat.succ_le_succ (Nat.zero_le 2)) ?_
  erw [vx3 s k v o2 (parseV (nthW v 1)).1 (parseV (nthW v 2)).1]
  unfold vx3_t
  refine ⟨decide_eq_true (by omega), hv 3, turn (B := fun o => StopX.at (loopOf Tryd.prog 36 0) 78 (vSt v o 3) [some (Box.cells [SV.str s, I64 k]), some (Box.cells [I64 0, I64 0, I64 0]), some (Box.cells [I64 (parseV (nthW v 1)).1, I64 (parseV (nthW v 2)).1, I64 (parseV (nthW v 3)).1])]) (fun h => ?_) fun o3 h3 ho3 => ⟨slotsS_len _ _, ?_⟩⟩
  · show Fin.pan (prob k (parseV (nthW v 3)).2) _ = _
    rw [h, e5 (.inr (.inr h))]; rfl
  have key := vx_fin s k v o3 (parseV (nthW v 1)).1 (parseV (nthW v 2)).1 (parseV (nthW v 3)).1
  have ho : o3 = (badN (parseV (nthW v 1)) || (badN (parseV (nthW v 2)) || badN (parseV (nthW v 3)))) := by
    rw [ho3, ho2, ho1, Bool.false_or, Bool.or_assoc]
  have ec : cErr v = if o3 = true then 8 else 0 := by
    unfold cErr
    rw [if_neg l1, if_neg (not_not_intro h0), if_neg (fun c => c.elim h1 fun c => c.elim h2 h3), ho]
  rw [ec]
  cases o3 with
  | true => exact key
  | false => exact key

theorem vertex_runs (s : List UInt8) (k : Int) (hs : small s = true) (hv : ∀ i, small (nthW (nWords s k) i) = true) : RunsX Tryd.prog (fnOf Tryd.prog 36) [] 1 (finV (nRest s k) (nLine s k) (nWords s k) (vErr s k)) (codeS Tryd.prog 36) (startS Tryd.prog 36 [.ptr 0 0]) [some (.cells [.str s, I64 k])] := by
  refine runsX_seg (hB (l := [fNP]) [] [] [] [] ⟨o_np, trivial⟩ noneOk nOkP noneOk) (n := 1000) (keep := keepS 78 [0, 2, 3, 4, 5, 26]) (p := vx0_p) (Nat.le_refl 1) ?_
  erw [vx0 s k]
  refine ⟨rfl, hs, fun h1 => ⟨fun h2 => ?_, fun h2 => ?_⟩, fun h1 => ?_⟩
  · have h2 : ¬ (nWords s k).length = 4 := by simp at h2; omega
    have : vErr s k = 5 := by unfold vErr cErr; rw [if_pos h1, if_pos h2]
    rw [this]; rfl
  · have h2 : (nWords s k).length = 4 := by simp at h2; omega
    refine ⟨decide_eq_true (by omega), fun h3 => ?_, fun h3 => ⟨slotsS_len _ _, ?_⟩⟩
    · have h3 : nthW (nWords s k) 0 ≠ vertexB := by simpa using h3
      have : vErr s k = 5 := by unfold vErr cErr; rw [if_pos h1, if_neg (not_not_intro h2), if_pos h3]
      rw [this]; rfl
    · have h3 : nthW (nWords s k) 0 = vertexB := by simpa using h3
      have : vErr s k = cErr (nWords s k) := by unfold vErr; rw [if_pos h1]
      rw [this]
      exact vx_loop _ _ _ hv h2 h3
  · have : vErr s k = 6 := by unfold vErr; rw [h1]; rfl
    rw [this]; rfl

def fVertex : BFact := ⟨36, fun args B => match args, B with
  | [], .cells [.str s, .int .i64 k] => some (.req (small s) (.node (decide (vErr s k = 0)) (.leaf (false, cVal (nWords s k), .cells [.str (nRest s k), I64 (nLine s k)])) (.leaf (true, prob (nLine s k) (vErr s k), .cells [.str (nRest s k), I64 (nLine s k)]))))
  | _, _ => none⟩
theorem vertex_ok36 : fnOk Tryd.prog 36 [.ptr 0 0] = true := by kernel_rfl
end Go.Proofs.YtlhkgeoahblffaaDoor
set_option linter.unusedSimpArgs false
set_option linter.unusedVariables false
set_option maxRecDepth 100000
namespace Go.Proofs.YtlhkgeoahblffaaDoor
open Go.Sx Go.Lib

def blank (b : UInt8) : Bool := b == 32 || b == 9
/-- The words of a line. -/
def wsplit : List UInt8 → List UInt8 → List (List UInt8)
  | cur, [] => if cur = [] then [] else [cur]
  | cur, b :: t => if blank b = true then (if cur = [] then wsplit [] t else cur :: wsplit [] t) else wsplit (cur ++ [b]) t

theorem wsplit_skip : ∀ (k : Nat) (cur l : List UInt8), k ≤ l.length → (∀ j, j < k → blank (l.getD j 0) = false) → wsplit cur l = wsplit (cur ++ l.take k) (l.drop k)
  | 0, cur, l, _, _ => by simp
  | k + 1, cur, [], h, _ => by simp at h
  | k + 1, cur, b :: t, h, hz => by
    have h0 : blank b = false := hz 0 (by omega)
    rw [wsplit, if_neg (by rw [h0]; simp), wsplit_skip k (cur ++ [b]) t (by simpa using h) (fun j hj => by simpa using hz (j + 1) (by omega))]
    simp

theorem blank_small {b : UInt8} (h : 128 ≤ b.toNat) : blank b = false := by
  unfold blank
  rw [Bool.or_eq_false_iff, beq_eq_false_iff_ne, beq_eq_false_iff_ne]
  refine ⟨fun c => ?_, fun c => ?_⟩
  · subst c; exact absurd h (by decide)
  · subst c; exact absurd h (by decide)
theorem blank_isSp (b : UInt8) : isSp b.toNat = blank b := by
  unfold isSp blank
  have e1 : (b.toNat == 32) = (b == 32) := by
    rw [Bool.eq_iff_iff, beq_iff_eq, beq_iff_eq]
    exact ⟨fun h => UInt8.toNat_inj.1 h, fun h => by subst h; rfl⟩
  have e2 : (b.toNat == 9) = (b == 9) := by
    rw [Bool.eq_iff_iff, beq_iff_eq, beq_iff_eq]
    exact ⟨fun h => UInt8.toNat_inj.1 h, fun h => by subst h; rfl⟩
  rw [e1, e2]

/-- At a rune: it is a blank, one byte, or none of its bytes is. -/
theorem rune_blank (s : ByteArray) (pos : Nat) (hp : pos < s.size) :
    (isSp (Utf8.decode s pos).1 = true ∧ (Utf8.decode s pos).2 = 1 ∧ blank (s.data.toList.getD pos 0) = true) ∨
    (isSp (Utf8.decode s pos).1 = false ∧ pos + (Utf8.decode s pos).2 ≤ s.size ∧ ∀ j, j < (Utf8.decode s pos).2 → blank (s.data.toList.getD (pos + j) 0) = false) := by
  have hn : s.data.toList.length - pos ≥ 1 := by rw [← size_eq]; omega
  rw [decode_N]
  generalize h0 : s.data.toList.getD pos 0 = b0
  generalize h1 : s.data.toList.getD (pos + 1) 0 = b1
  generalize h2 : s.data.toList.getD (pos + 2) 0 = b2
  generalize h3 : s.data.toList.getD (pos + 3) 0 = b3
  obtain ⟨c1, c2, c3, c4⟩ := decodeN_conts (s.data.toList.length - pos) b0.toNat b1.toNat b2.toNat b3.toNat
  have hle := decodeN_le_n' (s.data.toList.length - pos) b0.toNat b1.toNat b2.toNat b3.toNat hn
  have hge := decodeN_ge1 (s.data.toList.length - pos) b0.toNat b1.toNat b2.toNat b3.toNat
  have conts : blank b0 = false → ∀ j, j < (decodeN (s.data.toList.length - pos) b0.toNat b1.toNat b2.toNat b3.toNat).2 → blank (s.data.toList.getD (pos + j) 0) = false := fun hb j hj => by
    match j, hj with
    | 0, _ => rw [Nat.add_zero, h0]; exact hb
    | 1, hj => rw [h1]; exact blank_small (by have := c1 (by omega); omega)
    | 2, hj => rw [h2]; exact blank_small (by have := c2 (by omega); omega)
    | 3, hj => rw [h3]; exact blank_small (by have := c3 (by omega); omega)
    | j + 4, hj => omega
  by_cases ha : b0.toNat < 128
  · have e : decodeN (s.data.toList.length - pos) b0.toNat b1.toNat b2.toNat b3.toNat = (b0.toNat, 1) := by unfold decodeN; rw [if_pos ha]
    rw [e] at conts hle ⊢
    rw [blank_isSp]
    cases hb : blank b0 with
    | true => exact .inl ⟨rfl, rfl, rfl⟩
    | false => exact .inr ⟨rfl, by have := size_eq s; dsimp only at hle ⊢; omega, conts hb⟩
  · right
    refine ⟨?_, by have := size_eq s; omega, conts (blank_small (by omega))⟩
    unfold isSp
    rw [Bool.or_eq_false_iff, beq_eq_false_iff_ne, beq_eq_false_iff_ne]
    rcases decodeN_cases (s.data.toList.length - pos) b0.toNat b1.toNat b2.toNat b3.toNat with ⟨h, _⟩ | ⟨_, _, _, h, e⟩ | ⟨_, _, _, _, h, e⟩ | ⟨h, _⟩ | e
    · omega
    · rw [e]; dsimp only; omega
    · rw [e]; dsimp only; omega
    · omega
    · rw [e]; dsimp only; omega

theorem wsplit_spans (s : ByteArray) : ∀ (f pos : Nat) (st : Option Nat) (acc : List (Nat × Nat)), s.size ≤ pos + f → pos ≤ s.size → (∀ a, st = some a → a < pos) →
    acc.map (fun p => pieceU s.data.toList p.1 p.2) ++ wsplit (openPiece s.data.toList st pos) (s.data.toList.drop pos) = (closeSpans s (spansFromP isSp s f pos st acc)).map (fun p => pieceU s.data.toList p.1 p.2) := by
  have fin : ∀ (f pos : Nat) (st : Option Nat) (acc : List (Nat × Nat)), pos ≤ s.size → ¬ pos < s.size → (∀ a, st = some a → a < pos) →
      acc.map (fun p => pieceU s.data.toList p.1 p.2) ++ wsplit (openPiece s.data.toList st pos) (s.data.toList.drop pos) = (closeSpans s (spansFromP isSp s f pos st acc)).map (fun p => pieceU s.data.toList p.1 p.2) := by
    intro f pos st acc h1 h2 h3
    have hp : pos = s.size := by omega
    rw [spansFromP_end _ _ _ _ _ _ h2, List.drop_eq_nil_of_le (by rw [← size_eq]; omega)]
    cases st with
    | none => simp [wsplit, openPiece, closeSpans]
    | some a =>
      have hne := pieceU_ne s.data.toList a pos (h3 a rfl) (by rw [← size_eq]; omega)
      rw [show openPiece s.data.toList (some a) pos = pieceU s.data.toList a pos from rfl, wsplit, if_neg hne]
      simp only [closeSpans, List.map_append, List.map_cons, List.map_nil]
      rw [hp]
  intro f
  induction f with
  | zero =>
    intro pos st acc h1 h2 h3
    exact fin 0 pos st acc h2 (by omega) h3
  | succ f ih =>
    intro pos st acc h1 h2 h3
    by_cases hp : pos < s.size
    · have hlen : pos < s.data.toList.length := by rw [← size_eq]; exact hp
      have hw := width_pos s pos
      unfold spansFromP
      rw [if_pos hp]
      rcases rune_blank s pos hp with ⟨g1, g2, g3⟩ | ⟨g1, g2, g3⟩
      · rw [if_pos g1]
        have hd : s.data.toList.drop pos = s.data.toList.getD pos 0 :: s.data.toList.drop (pos + 1) := by
          rw [List.drop_eq_getElem_cons hlen]
          congr 1
          rw [List.getD_eq_getElem?_getD, List.getElem?_eq_getElem hlen]; rfl
        cases st with
        | none =>
          dsimp only
          rw [← ih _ none acc (by omega) (by omega) (fun a h => by cases h), g2, hd]
          simp only [openPiece, wsplit, if_pos g3, if_true]
        | some a =>
          dsimp only
          rw [← ih _ none _ (by omega) (by omega) (fun a h => by cases h), g2, hd]
          have hne := pieceU_ne s.data.toList a pos (h3 a rfl) (by omega)
          rw [show openPiece s.data.toList (some a) pos = pieceU s.data.toList a pos from rfl, wsplit, if_pos g3, if_neg hne]
          simp only [openPiece, List.map_append, List.map_cons, List.map_nil, List.append_assoc, List.singleton_append]
      · rw [if_neg (by rw [g1]; simp)]
        have sk : ∀ cur, wsplit cur (s.data.toList.drop pos) = wsplit (cur ++ (s.data.toList.drop pos).take (Utf8.decode s pos).2) (s.data.toList.drop (pos + (Utf8.decode s pos).2)) := fun cur => by
          rw [wsplit_skip (Utf8.decode s pos).2 cur _ (by rw [List.length_drop, ← size_eq]; omega) (fun j hj => by rw [getD_dropU]; exact g3 j hj), List.drop_drop]
        cases st with
        | none =>
          dsimp only
          rw [← ih _ (some pos) acc (by omega) g2 (fun a h => by injection h with h; omega), sk]
          simp only [openPiece]
          rw [← pieceU_grow _ _ _ _ (Nat.le_refl pos)]
          simp [pieceU]
        | some a =>
          dsimp only
          rw [← ih _ (some a) acc (by omega) g2 (fun b h => by injection h with h; have := h3 a rfl; omega), sk]
          simp only [openPiece]
          rw [← pieceU_grow _ _ _ _ (Nat.le_of_lt (h3 a rfl))]
    · exact fin (f + 1) pos st acc h2 hp h3

theorem extract_piece (s : ByteArray) (a b : Nat) : (s.extract a b).data.toList = pieceU s.data.toList a b := by
  unfold pieceU
  rw [ByteArray.data_extract, Array.toList_extract]
/-- The library's words are these. -/
theorem flds_eq (s : List UInt8) : flds s = wsplit [] s := by
  have key := wsplit_spans ⟨⟨s⟩⟩ s.length 0 none [] (by show s.length ≤ _; omega) (Nat.zero_le _) (fun a h => by cases h)
  unfold flds goFieldsP spansOfP
  rw [List.map_map]
  refine Eq.trans ?_ key.symm
  refine List.map_congr_left fun x _ => ?_
  exact extract_piece _ _ _

theorem wsplit_len : ∀ (cur l : List UInt8), ∀ x ∈ wsplit cur l, x.length ≤ cur.length + l.length
  | cur, [], x, hx => by
    rw [wsplit] at hx
    split at hx
    · cases hx
    · rw [List.mem_singleton.1 hx]; omega
  | cur, b :: t, x, hx => by
    rw [wsplit] at hx
    split at hx
    · split at hx
      · have := wsplit_len [] t x hx; simp at this ⊢; omega
      · rcases List.mem_cons.1 hx with rfl | hx
        · omega
        · have := wsplit_len [] t x hx; simp at this ⊢; omega
    · have := wsplit_len (cur ++ [b]) t x hx; simp at this ⊢; omega
theorem small_nil : small [] = true := rfl
theorem nthW_small {l : List (List UInt8)} (h : ∀ x ∈ l, small x = true) (i : Nat) : small (nthW l i) = true := by
  have e : nthW l i = (l[i]?).getD [] := List.getD_eq_getElem?_getD ..
  rw [e]
  cases hx : l[i]? with
  | none => exact small_nil
  | some x => exact h x (List.mem_of_getElem? hx)
theorem flds_small {s : List UInt8} (hs : small s = true) : ∀ x ∈ flds s, small x = true := fun x hx => by
  rw [flds_eq] at hx
  have := wsplit_len [] s x hx
  exact small_le (s := s) (by simpa using this) hs
theorem nx_small : ∀ (n : Nat) (s : List UInt8) (k : Int), small s = true → ∀ x ∈ (nx n s k).1.getD [], small x = true
  | 0, s, k, _, x, hx => by cases hx
  | n + 1, s, k, hs, x, hx => by
    unfold nx at hx
    split at hx
    · cases hx
    · rename_i h
      split at hx
      · exact flds_small (small_line hs h) x hx
      · exact nx_small n _ _ (small_rest hs h) x hx
theorem nWords_small {s : List UInt8} {k : Int} (hs : small s = true) (i : Nat) : small (nthW (nWords s k) i) = true := nthW_small (nx_small _ s k hs) i

theorem o_vertex : fVertex.ok Tryd.prog := fun args B t ht => by
  simp only [fVertex] at ht
  split at ht
  · rename_i s k
    injection ht with ht; subst ht
    intro hs
    have h := vertex_runs s k hs (nWords_small hs)
    unfold finV at h
    refine ⟨fun h1 => ?_, fun h1 => ?_⟩
    · rw [if_pos (of_decide_eq_true h1)] at h
      exact bcall_flat vertex_ok36 h rfl rfl rfl rfl rfl
    · rw [if_neg (of_decide_eq_false h1)] at h
      exact bcall_flat vertex_ok36 h rfl rfl rfl rfl rfl
  · cases ht
end Go.Proofs.YtlhkgeoahblffaaDoor
set_option linter.unusedSimpArgs false
set_option linter.unusedVariables false
namespace Go.Sx
open Go.RowKit

/-- Do these slots point to the beginnings of these boxes? -/
noncomputable def slotsAt (fr : Fr) : List (Nat × Nat) → Bool
  | [] => true
  | x :: l => (match fr.get x.1 with
    | .ptr i o => Nat.beq i x.2 && Nat.beq o 0
    | _ => false) && slotsAt fr l
theorem slotsAt_spec {fr : Fr} {R : Nat → Prop} {ρ : Rho} {n : Nat} {w : World} {tmps : Array Value} (hf : FRel R ρ n w fr tmps) : ∀ {ps : List (Nat × Nat)}, slotsAt fr ps = true → ∀ x ∈ ps, tmps.getD x.1 Go.undef = .pointer (some ⟨(ρ x.2).1, 0, none⟩)
  | [], _, x, hx => by cases hx
  | y :: l, h, x, hx => by
    have h : ((match fr.get y.1 with
      | .ptr i o => Nat.beq i y.2 && Nat.beq o 0
      | _ => false) && slotsAt fr l) = true := h
    rw [Bool.and_eq_true] at h
    rcases List.mem_cons.1 hx with rfl | hx
    · have h1 := h.1
      split at h1
      · rename_i i o hg
        rw [Bool.and_eq_true] at h1
        have e1 := Nat.eq_of_beq_eq_true h1.1
        have e2 := Nat.eq_of_beq_eq_true h1.2
        subst e1 e2
        have := hf.2 x.1
        rw [hg] at this
        exact this.2
      · cases h1
    · exact slotsAt_spec hf h.2 x hx

noncomputable def segY (E : Env) (n : Nat) (fn : Func) (np : Nat) (ps : List (Nat × Nat)) (keep : List Item → List Bool) (items : List Item) (p : Plan) (slots : List SV) (boxes : List (Option Box)) : Tree StopX :=
  Fr.make slots.length slots fun fr => memFill boxes ⟨0, .e⟩ fun m => exec E n items p fr m fun o => match o with
    | .ret _ fr m => results E fn m fr fun v => match dataO (firstB m np) && (gvW np m v).data && (slotsAt fr ps && Nat.beq fr.size slots.length) with
      | true => .leaf (.fin (.ret (gvW np m v) (firstB m np)))
      | false => .fail 180
    | .pan v fr m => match dataO (firstB m np) && v.data && (slotsAt fr ps && Nat.beq fr.size slots.length) with
      | true => .leaf (.fin (.pan v (firstB m np)))
      | false => .fail 181
    | .stop items fr m => match liveX np m (viewS fr (keep items) 0) with
      | ids => match nodupB ids && decide (ids.take np = List.range np) && Nat.beq fr.size slots.length with
        | true => .leaf (.at (enter items) fr.size (renL ids (viewS fr (keep items) 0)) (ids.map fun id => (m.get id).map (renB ids)))
        | false => .fail 170

/-- From such a state the code comes to this end. -/
def RunsY (P : Program) (fn : Func) (ds : List Deferred) (np : Nat) (ps : List (Nat × Nat)) (r : Fin) (items : List Item) (slots : List SV) (boxes : List (Option Box)) : Prop :=
  ∀ fr m, Canon slots boxes fr m → ∀ w0 R0 ρ w a, SRelD ds w0 R0 ρ w fr m a → ∀ (b : Frame) (cs : List Frame), ∃ ρ' w' a' todo u mF, mF.next = np ∧ (∀ k, mF.get k = (r.boxes[k]?).join) ∧ MRel w0 R0 ρ' w' mF ∧ (∀ k, k < np → ρ' k = ρ k) ∧ a'.defers = ds ∧ a'.tmps.size = slots.length ∧ (∀ x ∈ ps, a'.tmps.getD x.1 Go.undef = .pointer (some ⟨(ρ' x.2).1, 0, none⟩)) ∧
    (∀ b, RO w0 R0 ρ w m b → RO w0 R0 ρ' w' mF b ∧ w'.heap[b]? = w.heap[b]?) ∧ Rep (RO w0 R0 ρ' w' mF) ρ' np w' r.val u ∧
    match r with
    | .ret _ _ => Steps P (lone (b.at a items) cs w) (lone { b.at a' todo with mode := .returning } cs w') ∧ (Go.results fn a'.tmps).run P w' = .ok u w'
    | .pan _ _ => Steps P (lone (b.at a items) cs w) (lone { b.at a' todo with mode := .panicking [{ v := u, recovered := false }] } cs w')

theorem runsY_seg {P : Program} {E : Env} (hK : Known P E) {n : Nat} {fn : Func} {ds : List Deferred} {np : Nat} {ps : List (Nat × Nat)} {keep : List Item → List Bool} {items : List Item} {p : Plan} {slots : List SV} {boxes : List (Option Box)} {r : Fin} (hnp : np ≤ boxes.length)
    (h : (segY E n fn np ps keep items p slots boxes).holds fun o => match o with
      | .fin r' => r' = r
      | .at items' size slots' boxes' => slots'.length = size ∧ RunsY P fn ds np ps r items' slots' boxes') : RunsY P fn ds np ps r items slots boxes := by
  intro fr0 m0 hc0 w0 R0 ρ w a hs b cs
  unfold segY at h
  obtain ⟨fr, h1, h2, h3, h4⟩ := make_holds h
  obtain ⟨m, h5, h6, h7, h8⟩ := memFill_holds boxes ⟨0, .e⟩ _ h1 fun id _ => rfl
  have hc : Canon slots boxes fr m := ⟨h2, h4, by rw [h6]; simp, fun id => by simpa using h8 id⟩
  have hnm : np ≤ m.next := by rw [hc.next]; exact hnp
  obtain ⟨hs1, hro1⟩ := hc0.swap hc hs
  obtain ⟨out, h9, h10⟩ := exec_ok hK.e hK.s hK.mix n _ _ _ _ _ _ h5
  cases out with
  | ret p' fr' m' =>
    dsimp only at h9
    obtain ⟨v', k1, k2⟩ := results_holds hK.e h9
    split at k1
    · rename_i hd
      rw [Bool.and_eq_true, Bool.and_eq_true, Bool.and_eq_true] at hd
      obtain ⟨hd, hps, hsz⟩ := hd
      have hsz := Nat.eq_of_beq_eq_true hsz
      have k1 : Fin.ret (gvW np m' v') (firstB m' np) = r := k1
      subst k1
      obtain ⟨ρ1, w1, a1, todo, g1, g2, g3⟩ := h10 w0 R0 ρ w a hs1 b cs
      obtain ⟨u, r1, r2⟩ := k2 w0 R0 ρ1 w1 a1 g1
      obtain ⟨mF, hn, hg⟩ := memOf np (firstB m' np)
      obtain ⟨e1, e2, e3⟩ := g1.1.first hd.1 hn hg
      exact ⟨ρ1, w1, a1, todo, u, mF, hn, hg, e1, fun k hk => g2.same k (by omega), g1.2.2, by rw [← g1.2.1.1, hsz], slotsAt_spec g1.2.1 hps, fun b hb => ⟨e2 b (g2.keep b ((hro1 b).1 hb)).1, (g2.keep b ((hro1 b).1 hb)).2⟩, by have := e3 v' u hd.2 r2; rw [hn] at this; exact this, g3, r1⟩
    · exact k1.elim
  | pan v' fr' m' =>
    dsimp only at h9
    split at h9
    · rename_i hd
      rw [Bool.and_eq_true, Bool.and_eq_true, Bool.and_eq_true] at hd
      obtain ⟨hd, hps, hsz⟩ := hd
      have hsz := Nat.eq_of_beq_eq_true hsz
      have h9 : Fin.pan v' (firstB m' np) = r := h9
      subst h9
      obtain ⟨ρ1, w1, a1, todo, u, g1, g2, g3, g4⟩ := h10 w0 R0 ρ w a hs1 b cs
      obtain ⟨mF, hn, hg⟩ := memOf np (firstB m' np)
      obtain ⟨e1, e2, _⟩ := g1.1.first hd.1 hn hg
      exact ⟨ρ1, w1, a1, todo, u, mF, hn, hg, e1, fun k hk => g2.same k (by omega), g1.2.2, by rw [← g1.2.1.1, hsz], slotsAt_spec g1.2.1 hps, fun b hb => ⟨e2 b (g2.keep b ((hro1 b).1 hb)).1, (g2.keep b ((hro1 b).1 hb)).2⟩, Rep.data e2 v' u hd.2 g3, g4⟩
    · exact h9.elim
  | stop items' fr' m' =>
    dsimp only at h9
    split at h9
    · rename_i hnd
      rw [Bool.and_eq_true, Bool.and_eq_true, decide_eq_true_eq] at hnd
      obtain ⟨hnd, hsz⟩ := hnd
      have hsz := Nat.eq_of_beq_eq_true hsz
      have h10 : Reach P items fr m (.stop (enter items') fr' m') := by
        refine h10.trans ?_
        unfold enter
        split
        · exact Reach.step fun b a cs w _ => step_loop
        · exact Reach.step fun b a cs w _ => step_inLoop
        · exact Reach.refl _ _ _
      generalize hids : liveX np m' (viewS fr' (keep items') 0) = ids at h9 hnd
      obtain ⟨k1, k5⟩ := h9
      obtain ⟨ρ1, w1, a1, g1, g2, g3⟩ := h10 w0 R0 ρ w a hs1 b cs
      obtain ⟨fr2, m2, hc2⟩ := Canon.of (slots := renL ids (viewS fr' (keep items') 0)) (boxes := ids.map fun id => (m'.get id).map (renB ids))
      obtain ⟨e1, e2⟩ := g1.rename (nodupB_spec hnd.1) hc2 (by rw [← k1, renL_len]) (fun i x hx => by simpa using viewS_get fr' _ 0 i x hx)
      obtain ⟨ρ3, w3, a3, todo, u, mF, q1, q2, q3, q4, q5, qs, qp, q6, q7, q8⟩ := k5 fr2 m2 hc2 w0 R0 _ w1 a1 e1 b cs
      refine ⟨ρ3, w3, a3, todo, u, mF, q1, q2, q3, fun k hk => ?_, q5, qs.trans (k1.trans hsz), qp, fun b hb => by
        have s1 := g2.keep b ((hro1 b).1 hb)
        have s2 := q6 b (e2 b s1.1)
        exact ⟨s2.1, s2.2.trans s1.2⟩, q7, ?_⟩
      · rw [q4 k hk]
        have : ids.getD k 0 = k := by
          have h1 : (ids.take np)[k]? = (List.range np)[k]? := by rw [hnd.2]
          rw [List.getElem?_take_of_lt hk, List.getElem?_range hk] at h1
          rw [List.getD_eq_getElem?_getD, h1]; rfl
        rw [this]
        exact g2.same k (by omega)
      · cases r with
        | ret v bs => exact ⟨g3.trans q8.1, q8.2⟩
        | pan v bs => exact g3.trans q8
    · exact h9.elim


theorem runsY_top {P : Program} {fn : Func} {ds : List Deferred} {np : Nat} {ps : List (Nat × Nat)} {r : Fin} {items : List Item} {slots slots' : List SV} {boxes : List (Option Box)} (h : RunsY P fn ds np ps r items slots boxes) (hl : slots'.length = slots.length) (ht : ∀ i : Nat, slots.getD i .undef = .top ∨ slots.getD i .undef = slots'.getD i .undef) : RunsY P fn ds np ps r items slots' boxes := by
  intro fr m hc w0 R0 ρ w a hs b cs
  obtain ⟨fr2, m2, hc2⟩ := Canon.of (slots := slots) (boxes := boxes)
  have hcm : Canon slots boxes fr2 m := ⟨hc2.size, hc2.get, hc.next, hc.box⟩
  have := h fr2 m hcm w0 R0 ρ w a ⟨hs.1, ⟨?_, fun t => ?_⟩, hs.2.2⟩ b cs
  · rw [hl]; exact this
  · rw [hc2.size, ← hl, ← hc.size]; exact hs.2.1.1
  · rw [hc2.get]
    rcases ht t with e | e
    · rw [e]; trivial
    · rw [e, ← hc.get]; exact hs.2.1.2 t
end Go.Sx
set_option linter.unusedSimpArgs false
set_option linter.unusedVariables false
namespace Go.Sx
open Go.RowKit

/-! ### Results -/

noncomputable def resX (E : Env) (fn : Func) (slots : List SV) (boxes : List (Option Box)) : Tree SV :=
  Fr.make slots.length slots fun fr => memFill boxes ⟨0, .e⟩ fun m => results E fn m fr fun v => .leaf v

theorem resX_sound {P : Program} {E : Env} (hK : Known P E) {fn : Func} {slots : List SV} {boxes : List (Option Box)} {v : SV} (h : (resX E fn slots boxes).holds fun x => x = v) {w0 : World} {R0 : Nat → Prop} {ρ : Rho} {w : World} {m : Mem} {tmps : Array Value}
    (hm : MRel w0 R0 ρ w m) (hn : m.next = boxes.length) (hg : ∀ k, m.get k = (boxes[k]?).join) (hs : tmps.size = slots.length) (ht : ∀ t, Rep (RO w0 R0 ρ w m) ρ m.next w (slots.getD t .undef) (tmps.getD t Go.undef)) :
    ∃ u, (Go.results fn tmps).run P w = .ok u w ∧ Rep (RO w0 R0 ρ w m) ρ m.next w v u := by
  unfold resX at h
  obtain ⟨fr, h1, h2, h3, h4⟩ := make_holds h
  obtain ⟨m2, h5, h6, h7, h8⟩ := memFill_holds boxes ⟨0, .e⟩ _ h1 fun id _ => rfl
  have hn2 : m2.next = m.next := by rw [h6, hn]; simp
  have hg2 : ∀ k, m.get k = m2.get k := fun k => by rw [hg k]; have := h8 k; simpa using this.symm
  obtain ⟨v', k1, k2⟩ := results_holds hK.e h5
  have k1 : v' = v := k1
  subst k1
  have ero := RO.congr (w0 := w0) (R0 := R0) (ρ := ρ) (w := w) hg2
  obtain ⟨u, r1, r2⟩ := k2 w0 R0 ρ w { tmps := tmps, defers := [] } ⟨hm.congr (fun k => (hg2 k).symm) hn2, ⟨by rw [h2]; exact hs.symm, fun t => by rw [h4 t, hn2, ← ero]; exact ht t⟩, rfl⟩
  exact ⟨u, r1, by rw [hn2, ← ero] at r2; exact r2⟩

/-! ### The region that lays the deferred call -/

theorem defer_region {P : Program} {id : Nat} {ops : Array Oper} {o1 o2 : Oper} {g : FuncId} {cap : Array Operand} {d : Tmp} {c : Call} (h : ops.toList = [o1, o2]) (g1 : o1.op = .makeFunc (.func g) #[] cap) (g1g : o1.guard = none) (g1d : o1.dst = some d)
    (g2 : o2.op = .defer c) (g2c : c.callee = .value (.tmp d)) (g2a : c.args = #[]) (g2g : o2.guard = none) (g2d : o2.dst = none) (a : Act) (w : World) (hd : d < a.tmps.size) :
    (Code.region id ops false).wp P (fun e a' w' => e = .normal ∧ w' = w ∧ a' = { tmps := a.tmps.setIfInBounds d (.func (.func g) #[] (cap.map a.eval)), defers := { target := .fn (.func g) (cap.map a.eval), args := #[] } :: a.defers }) a w := by
  refine wp_region ?_
  have hops : ops = #[o1, o2] := by apply Array.ext'; exact h
  subst hops
  show wpOps P #[o1, o2] _ [0, 1] a w
  unfold wpOps
  rw [show (#[o1, o2] : Array Oper)[0]? = some o1 from rfl]
  dsimp only
  rw [if_pos (by simp [Region.wanted, g1g])]
  refine .inl ?_
  unfold Oper.wp
  have e1 : (Go.execOp a.eval o1).run P w = .ok (.value (.func (.func g) #[] (cap.map a.eval))) w := by
    obtain ⟨dst, op, ty, pos, after, guard⟩ := o1
    dsimp only at g1
    subst g1
    simp [Go.execOp, Instr.makeFunc]
  rw [e1, Oper.upon_value, g1d]
  unfold wpOps
  rw [show (#[o1, o2] : Array Oper)[1]? = some o2 from rfl]
  dsimp only
  rw [if_pos (by simp [Region.wanted, g2g])]
  refine .inl ?_
  unfold Oper.wp
  have ev : (a.put (some d) (.func (.func g) #[] (cap.map a.eval))).eval (.tmp d) = .func (.func g) #[] (cap.map a.eval) := by
    simp [Act.eval, Act.put, Array.getElem?_setIfInBounds, hd]
  have e2 : (Go.execOp (a.put (some d) (.func (.func g) #[] (cap.map a.eval))).eval o2).run P w = .ok (.defer { target := .fn (.func g) (cap.map a.eval), args := #[] }) w := by
    obtain ⟨dst, op, ty, pos, after, guard⟩ := o2
    dsimp only at g2
    subst g2
    simp [Go.execOp, resolve, g2c, g2a, ev, Deferred.ofValue]
  rw [e2, Oper.upon_defer, g2d]
  unfold wpOps
  exact ⟨rfl, rfl, rfl⟩

/-! ### recover -/

theorem rec_step {P : Program} {b : Frame} {a : Act} {k : List Item} {cs cs' : List Frame} {w : World} {ops : Array Oper} {i : Nat} {rest : List Nat} {o : Oper} {v : Value} (hb : b.kind = .deferred) (ho : ops[i]? = some o) (hg0 : o.guard = none)
    (hr : (Go.execOp a.eval o).run P w = .ok .recover w) (hv : (recoverD cs = some (v, cs')) ∨ (recoverD cs = none ∧ v = .nilIface ∧ cs' = cs)) :
    step P (lone (b.at a (.inRegion ops (i :: rest) :: k)) cs w) = .next (lone (b.at (a.put o.dst v) (.inRegion ops rest :: k)) cs' w) := by
  have hw : Region.wanted o (yielded ops a.tmps) = true := by simp [Region.wanted, hg0]
  have hg := stepG_op (P := P) (b := b) (k := k) (cs := cs) (w := w) (rest := rest) ho hw
  have hfin : ∀ v, (b.at a (.inRegion ops (i :: rest) :: k)).finish v = b.at (a.put o.dst v) (.inRegion ops rest :: k) := by
    intro v; rw [Frame.finish_at, ho]; rfl
  have hk : (b.at a (.inRegion ops (i :: rest) :: k)).kind = .deferred := hb
  have htr := tryRecover_deferred hk cs
  refine step_lone_go ?_
  rw [hg, ← hfin]
  simp only [Frame.at] at htr ⊢
  rcases hv with hrec | ⟨hrec, rfl, rfl⟩
  · simp [stepG.apply, hr, htr, hrec]
  · simp [stepG.apply, hr, htr, hrec]

/-! ### All together -/

/-- What recover hands to the deferred call. -/
def Fin.hand : Fin → SV
  | .ret _ _ => .raw .nilIface
  | .pan v _ => v
def Fin.mode (u : Value) : Fin → FrameMode
  | .ret _ _ => .returning
  | .pan _ _ => .panicking [{ v := u, recovered := false }]
def Fin.mode2 (u : Value) : Fin → FrameMode
  | .ret _ _ => .returning
  | .pan _ _ => .panicking [{ v := u, recovered := true }]
def Fin.got (u : Value) : Fin → Value
  | .ret _ _ => .nilIface
  | .pan _ _ => u

theorem deferred_runsR {P : Program} {E : Env} (hK : Known P E) {fn : Func} {id : Nat} {ops : Array Oper} {k : List Item} {o1 o2 : Oper} {g : FuncId} {cap : Array Operand} {d : Tmp} {c : Call} (h : ops.toList = [o1, o2]) (g1 : o1.op = .makeFunc (.func g) #[] cap) (g1g : o1.guard = none) (g1d : o1.dst = some d)
    (g2 : o2.op = .defer c) (g2c : c.callee = .value (.tmp d)) (g2a : c.args = #[]) (g2g : o2.guard = none) (g2d : o2.dst = none)
    {ps : List (Nat × Nat)} {slots : List SV} {boxes : List (Option Box)} (hcap : cap.toList = ps.map fun x => Operand.tmp x.1) (hps : ∀ x ∈ ps, slots.getD x.1 .undef = .ptr x.2 0 ∧ x.2 < boxes.length) (hd : d < slots.length) (hdt : slots.getD d .undef = .top)
    {r : Fin} (main : ∀ ds, RunsY P fn ds boxes.length ps r k slots boxes) (hlr : r.boxes.length = boxes.length)
    {fg : Func} {cg : Code} (hfg : P.funcs[g]? = some fg) (hbg : fg.body = some cg) (hng : (fg.name == "runtime.NumGoroutine") = false) {i0 : Nat} {opsg : Array Oper} {kg : List Item} {o0 : Oper} {d0 : Tmp} (hreach : ∀ fr m, Reach P [.code cg] fr m (.stop (.code (.region i0 opsg false) :: kg) fr m))
    (hop : opsg[0]? = some o0) (hog : o0.guard = none) (hod : o0.dst = some d0) (hrec : ∀ ev w, (Go.execOp ev o0).run P w = .ok .recover w) (hszg : 0 < opsg.size)
    {sg : List SV} (hsg : sg.length = fg.ntmps) (hd0 : d0 < fg.ntmps) (hle : ps.length ≤ fg.ntmps) (hsg0 : sg.getD d0 .undef = r.hand) (hsgs : ∀ t, t < fg.ntmps → t ≠ d0 → sg.getD t .undef = .top ∨ ∃ x, ps[t]? = some x ∧ sg.getD t .undef = .ptr x.2 0)
    {vg : SV} {bs' : List (Option Box)} (clos : RunsX P fg [] boxes.length (.ret vg bs') (.inRegion opsg (List.range' 1 (opsg.size - 1)) :: kg) sg r.boxes) (hlb : bs'.length = boxes.length)
    {v : SV} (hvd : v.data = true) {sl : List SV} (hsl : sl.length = slots.length) (hsls : ∀ t, t < slots.length → sl.getD t .undef = .top ∨ ∃ x ∈ ps, x.1 = t ∧ sl.getD t .undef = .ptr x.2 0) (hres : (resX E fn sl bs').holds fun x => x = v) :
    RunsR P fn v (.code (.region id ops false) :: k) slots boxes := by
  intro fr m hc w0 R0 ρ w a hs b cs
  obtain ⟨hm, hfr, hdef⟩ := hs
  have hda : d < a.tmps.size := by rw [← hfr.1, hc.size]; exact hd
  -- the deferred call is laid
  obtain ⟨e, a1, w1, ⟨rfl, rfl, rfl⟩, harr1⟩ := defer_region (P := P) (id := id) h g1 g1g g1d g2 g2c g2a g2g g2d a w hda b k cs
  generalize hD : ({ target := .fn (.func g) (cap.map a.eval), args := #[] } : Deferred) = D at harr1
  have hs1 : SRelD [D] w0 R0 ρ w1 fr m { tmps := a.tmps.setIfInBounds d (.func (.func g) #[] (cap.map a.eval)), defers := D :: a.defers } := by
    refine ⟨hm, ⟨by simpa using hfr.1, fun t => ?_⟩, by rw [hdef]⟩
    by_cases ht : d = t
    · subst ht
      rw [hc.get, hdt]; trivial
    · have := hfr.2 t
      simpa [Array.getElem?_setIfInBounds_ne ht] using this
  obtain ⟨ρ', w', a', todo, u, mF, q1, q2, q3, q4, q5, qs, qp, q6, q7, q8⟩ := main [D] fr m hc w0 R0 ρ w1 _ hs1 b cs
  -- what the deferred call is handed
  have hcapv : (cap.map a.eval).toList = ps.map fun x => Value.pointer (some ⟨(ρ' x.2).1, 0, none⟩) := by
    rw [Array.toList_map, hcap, List.map_map]
    refine List.map_congr_left fun x hx => ?_
    obtain ⟨h1, h2⟩ := hps x hx
    have := hfr.2 x.1
    rw [hc.get, h1] at this
    have e : a.eval (.tmp x.1) = .pointer (some ⟨(ρ x.2).1, 0, none⟩) := this.2
    show a.eval (.tmp x.1) = _
    rw [e, q4 x.2 h2]
  have hsteps : Steps P (lone (b.at { tmps := a.tmps.setIfInBounds d (.func (.func g) #[] (cap.map a.eval)), defers := D :: a.defers } k) cs w1) (lone { b.at a' todo with mode := r.mode u } cs w') := by
    cases r with
    | ret v0 bs => exact q8.1
    | pan v0 bs => exact q8
  have hMrun : r.mode u ≠ .run := by cases r <;> simp [Fin.mode]
  have hstep2 := step_defer (P := P) (fr := { b.at a' todo with mode := r.mode u }) (cs := cs) (w := w') (d := D) (ds := []) (fv := .func g) (cap := cap.map a.eval) (f := g) (args := cap.map a.eval) hMrun q5 (by rw [← hD]) (by
    rw [← hD]
    show (Go.callFunc g (#[] ++ cap.map a.eval)).run P w' = _
    rw [Array.empty_append]
    exact callFunc_enter hfg hbg hng _ _)
  -- its frame
  let bg : Frame := { (default : Frame) with fn := g, kind := .deferred }
  let tg : Array Value := cap.map a.eval ++ Array.replicate (fg.ntmps - (cap.map a.eval).size) Go.undef
  have hcsz : (cap.map a.eval).size = ps.length := by rw [← Array.length_toList, hcapv, List.length_map]
  have henter : Frame.enter P g (cap.map a.eval) .deferred = bg.at { tmps := tg, defers := [] } [.code cg] := by
    simp [Frame.enter, Frame.at, hfg, hbg, bg, tg]
  have htg : tg.size = fg.ntmps := by simp only [tg, Array.size_append, Array.size_replicate, hcsz]; omega
  have hptr : ∀ (t : Nat) (x : Nat × Nat), ps[t]? = some x → tg.getD t Go.undef = .pointer (some ⟨(ρ' x.2).1, 0, none⟩) := fun t x hx => by
    have ht : t < ps.length := (List.getElem?_eq_some_iff.1 hx).1
    have h1 : (cap.map a.eval)[t]? = some (.pointer (some ⟨(ρ' x.2).1, 0, none⟩)) := by
      rw [← Array.getElem?_toList, hcapv, List.getElem?_map, hx]; rfl
    simp only [tg, Array.getD_eq_getD_getElem?]
    rw [Array.getElem?_append_left (by rw [hcsz]; exact ht), h1]; rfl
  obtain ⟨frg, mg, hcg⟩ := Canon.of (slots := sg) (boxes := r.boxes)
  have hcF : Canon sg r.boxes frg mF := ⟨hcg.size, hcg.get, by rw [q1, hlr], q2⟩
  -- to the region in which it recovers: nothing is known of the slot yet
  obtain ⟨fr0, mg0, hcg0⟩ := Canon.of (slots := sg.set d0 SV.top) (boxes := r.boxes)
  have hmn : mF.next = boxes.length := q1
  have hs0 : SRelD [] w0 R0 ρ' w' fr0 mF { tmps := tg, defers := [] } := ⟨q3, ⟨by rw [hcg0.size, htg]; simp [hsg], fun t => by
    rw [hcg0.get]
    by_cases ht : t < fg.ntmps
    · by_cases htd : t = d0
      · have : (sg.set d0 SV.top).getD t .undef = .top := by rw [htd]; simp [hsg, hd0]
        rw [this]; trivial
      · have e : (sg.set d0 SV.top).getD t .undef = sg.getD t .undef := by
          rw [List.getD_eq_getElem?_getD, List.getD_eq_getElem?_getD, List.getElem?_set_ne (Ne.symm htd)]
        rw [e]
        rcases hsgs t ht htd with e | ⟨x, hx, e⟩
        · rw [e]; trivial
        · rw [e]
          refine ⟨by rw [hmn]; exact (hps x (List.mem_of_getElem? hx)).2, hptr t x hx⟩
    · have : (sg.set d0 SV.top).getD t .undef = .undef := by
        rw [List.getD_eq_getElem?_getD, List.getElem?_eq_none (by simp [hsg]; omega)]; rfl
      rw [this]
      have : tg.getD t Go.undef = Go.undef := by
        rw [Array.getD_eq_getD_getElem?, Array.getElem?_eq_none (by omega)]; rfl
      exact this⟩, rfl⟩
  obtain ⟨ρ1, w2, a2, s1, x1, st1⟩ := hreach fr0 mF w0 R0 ρ' w' _ hs0 bg ({ { b.at a' todo with mode := r.mode u } with defers := [] } :: cs)
  have hrange : List.range opsg.size = 0 :: List.range' 1 (opsg.size - 1) := by
    rw [List.range_eq_range', show opsg.size = (opsg.size - 1) + 1 by omega, List.range'_succ]; simp
  have hstep3 := step_region (P := P) (b := bg) (a := a2) (k := kg) (cs := { { b.at a' todo with mode := r.mode u } with defers := [] } :: cs) (w := w2) (ops := opsg) (id := i0)
  rw [hrange] at hstep3
  have hstep4 := rec_step (P := P) (b := bg) (a := a2) (k := kg) (cs := { { b.at a' todo with mode := r.mode u } with defers := [] } :: cs) (cs' := { { b.at a' todo with mode := r.mode2 u } with defers := [] } :: cs) (w := w2) (ops := opsg) (i := 0) (rest := List.range' 1 (opsg.size - 1)) (v := r.got u) rfl hop hog (hrec _ _) (by
    cases r with
    | ret v0 bs => exact .inr ⟨rfl, rfl, rfl⟩
    | pan v0 bs => exact .inl rfl)
  rw [hod] at hstep4
  have hda2 : d0 < a2.tmps.size := by rw [← s1.2.1.1, hcg0.size]; simp [hsg]; exact hd0
  have hs2 : SRelD [] w0 R0 ρ1 w2 frg mF (a2.put (some d0) (r.got u)) := ⟨s1.1, ⟨by rw [hcF.size, hsg]; have := s1.2.1.1; rw [hcg0.size] at this; simp [hsg] at this; simp [Act.put, this], fun t => by
    rw [hcF.get]
    by_cases htd : d0 = t
    · subst htd
      rw [hsg0]
      simp only [Act.put, Array.getD_eq_getD_getElem?, Array.getElem?_setIfInBounds, if_true, hda2, Option.getD_some]
      cases r with
      | ret v0 bs => exact rfl
      | pan v0 bs =>
        have hmm : mF.next = boxes.length := hmn
        rw [← hmn] at q7
        exact Rep.mono x1 _ _ q7
    · have := s1.2.1.2 t
      rw [hcg0.get, List.getD_eq_getElem?_getD, List.getElem?_set_ne htd, ← List.getD_eq_getElem?_getD] at this
      simpa [Act.put, Array.getElem?_setIfInBounds_ne htd] using this⟩, by rw [put_defers]; exact s1.2.2⟩
  obtain ⟨ρ2, w3, a3, todo3, u3, mG, p1, p2, p3, p4, p5, p6, p7, p8, p9⟩ := clos frg mF hcF w0 R0 ρ1 w2 _ hs2 bg ({ { b.at a' todo with mode := r.mode2 u } with defers := [] } :: cs)
  have hstep5 := step_going_returned (P := P) (fr := { bg.at a3 todo3 with mode := .returning }) (c := { { b.at a' todo with mode := r.mode2 u } with defers := [] }) (cs := cs) (w := w3) (v := u3) rfl ⟨rfl, p5, fg, hfg, p9⟩
  have hsettle : settle (r.mode2 u) = .returning := by cases r <;> rfl
  -- the results
  have hnG : mG.next = bs'.length := by rw [p1, hlb]
  obtain ⟨u4, r1, r2⟩ := resX_sound hK hres p3 hnG p2 (tmps := a'.tmps) (by rw [qs, hsl]) (fun t => by
    by_cases ht : t < slots.length
    · rcases hsls t ht with e | ⟨x, hx, rfl, e⟩
      · rw [e]; trivial
      · rw [e, qp x hx]
        have hxl := (hps x hx).2
        refine ⟨by rw [p1]; exact hxl, ?_⟩
        rw [p4 x.2 hxl, x1.same x.2 (by rw [hmn]; exact hxl)]
    · have e1 : sl.getD t .undef = .undef := by rw [List.getD_eq_getElem?_getD, List.getElem?_eq_none (by omega)]; rfl
      have e2 : a'.tmps.getD t Go.undef = Go.undef := by rw [Array.getD_eq_getD_getElem?, Array.getElem?_eq_none (by omega)]; rfl
      rw [e1, e2]; exact rfl)
  obtain ⟨z1, z2⟩ := p3.bare
  refine ⟨ρ2, w3, { a' with defers := [] }, todo, u4, z1, rfl, fun bb hbb => ?_, ?_, r1, Rep.data z2 v u4 hvd r2⟩
  · obtain ⟨y1, y2⟩ := q6 bb hbb
    obtain ⟨y3, y4⟩ := x1.keep bb y1
    obtain ⟨y5, y6⟩ := p6 bb y3
    exact ⟨z2 bb y5, y6.trans (y4.trans y2)⟩
  · rw [henter] at hstep2
    refine Steps.trans harr1 (Steps.trans hsteps (.head hstep2 (Steps.trans st1 (.head hstep3 (.head hstep4 (Steps.trans p8 (.one ?_)))))))
    rw [hstep5]
    dsimp only
    rw [hsettle]
    rfl
end Go.Sx
set_option linter.unusedSimpArgs false
set_option linter.unusedVariables false
set_option maxRecDepth 100000
namespace Go.Proofs.YtlhkgeoahblffaaDoor
open Go.Sx
/-- Three numbers. -/
abbrev v3 : Ty := .pair (.int .i64) (.pair (.int .i64) (.int .i64))
def cTri (v : List (List UInt8)) : Int × Int × Int := ((parseV (nthW v 1)).1, (parseV (nthW v 2)).1, (parseV (nthW v 3)).1)
def tri (n : Int) : Int × Int × Int := (n, IntKind.i64.wrap (n + 1), IntKind.i64.wrap (n + 2))
/-- Where the deferred call is laid. -/
noncomputable def itemsAt3 : List Item := stopIt (segX (Env.ofB Tryd.prog (sumOf []) (wrOf []) (pnOf []) (bxOf []) (rdOf []) (rdOf []) (rdOf []) (rdOf [3])) 1000 (fnOf Tryd.prog 17) 0 (keepS 52 [0,2,3,4]) (codeS Tryd.prog 17) .all (startS Tryd.prog 17 [.str []]) [])
noncomputable def ops3 : Array Oper := headOps itemsAt3
def pa0_p : Plan := .fork (.all) (.all)
noncomputable def pa0_t (s : List UInt8) : Tree Stop :=
   .node (decide ((↑s.length : Int) > 65536))
 (.leaf (Stop.done (SV.tuple [SV.agg [SV.list v3 [], SV.list v3 []], I64 0, I64 2])))
 (.leaf (Stop.at itemsAt3 52 (slotsS 52 [(0, SV.str s), (2, SV.ptr 0 0), (3, SV.ptr 1 0), (4, SV.ptr 2 0)]) [some (Box.cells [SV.nilS, SV.nilS]), some (Box.cells [I64 0]), some (Box.cells [I64 0])]))
theorem pa0 (s : List UInt8) : segR (Env.ofB Tryd.prog (sumOf []) (wrOf []) (pnOf []) (bxOf []) (rdOf []) (rdOf []) (rdOf []) (rdOf [3])) 1000 (fnOf Tryd.prog 17) v3 (keepS 52 [0,2,3,4]) (codeS Tryd.prog 17) pa0_p (startS Tryd.prog 17 [.str s]) [] = pa0_t s := by kernel_rfl
def pa1_p : Plan := .fork (.all) (.all)
noncomputable def pa1_t (s : List UInt8) : Tree StopX :=
   .req (small s) (.node (wOk s 0 [[115, 111, 108, 105, 100]])
  (.leaf (StopX.at (loopOf Tryd.prog 17 0) 52 (slotsS 52 [(2, SV.ptr 0 0), (3, SV.ptr 1 0), (4, SV.ptr 2 0), (5, SV.ptr 3 0)]) [some (Box.cells [SV.nilS, SV.nilS]), some (Box.cells [I64 0]), some (Box.cells [I64 0]), some (Box.cells [SV.str (nRest s 0), I64 (nLine s 0)])]))
  (.leaf (StopX.fin (Fin.pan (prob (nLine s 0) (wErr s 0)) [some (Box.cells [SV.nilS, SV.nilS]), some (Box.cells [I64 0]), some (Box.cells [I64 0])]))))
theorem pa1 (s : List UInt8) : segY (Env.ofB Tryd.prog (sumOf []) (wrOf []) (pnOf [fWord, BFact.toP fEnd, BFact.toP fVertex]) (bxOf [fEnd, fVertex]) (rdOf []) (rdOf []) (rdOf []) (rdOf [])) 1000 (fnOf Tryd.prog 17) 3 [(2, 0), (3, 1), (4, 2)] (keepS 52 [2,3,4,5,6,25]) itemsAt3.tail pa1_p (slotsS 52 [(0, .str s), (2, .ptr 0 0), (3, .ptr 1 0), (4, .ptr 2 0)]) [some (.cells [.nilS, .nilS]), some (.cells [I64 0]), some (.cells [I64 0])] = pa1_t s := by kernel_rfl
def pb0_p : Plan := .fork (.fork (.all) (.fork (.all) (.all))) (.all)
noncomputable def pb0_t (s : List UInt8) (k : Int) : Tree StopX :=
   .req (small s) (.node (wOk s k [[102, 97, 99, 101, 116], [101, 110, 100, 115, 111, 108, 105, 100]])
  (.node (nthW (nWords s k) 0 == [102, 97, 99, 101, 116])
   (.leaf (StopX.at (loopOf Tryd.prog 17 1) 52 (slotsS 52 [(2, SV.ptr 0 0), (3, SV.ptr 1 0), (4, SV.ptr 2 0), (5, SV.ptr 3 0), (6, I64 0), (25, I64 0)]) [some (Box.cells [SV.nilS, SV.nilS]), some (Box.cells [I64 0]), some (Box.cells [I64 0]), some (Box.cells [SV.str (nRest s k), I64 (nLine s k)])]))
   (.req (small (nRest s k)) (.node (eOk (nRest s k) (nLine s k))
     (.leaf (StopX.fin (Fin.ret (SV.tuple [SV.agg [SV.nilS, SV.nilS], I64 0, I64 0]) [some (Box.cells [SV.nilS, SV.nilS]), some (Box.cells [I64 0]), some (Box.cells [I64 0])])))
     (.leaf (StopX.fin (Fin.pan (prob (eLine (nRest s k) (nLine s k)) 5) [some (Box.cells [SV.nilS, SV.nilS]), some (Box.cells [I64 0]), some (Box.cells [I64 0])]))))))
  (.leaf (StopX.fin (Fin.pan (prob (nLine s k) (wErr s k)) [some (Box.cells [SV.nilS, SV.nilS]), some (Box.cells [I64 0]), some (Box.cells [I64 0])]))))
theorem pb0 (s : List UInt8) (k : Int) : segY (Env.ofB Tryd.prog (sumOf []) (wrOf []) (pnOf [fWord, BFact.toP fEnd, BFact.toP fVertex]) (bxOf [fEnd, fVertex]) (rdOf []) (rdOf []) (rdOf []) (rdOf [])) 1000 (fnOf Tryd.prog 17) 3 [(2, 0), (3, 1), (4, 2)] (keepS 52 [2,3,4,5,6,25]) (loopOf Tryd.prog 17 0) pb0_p (slotsS 52 [(2, .ptr 0 0), (3, .ptr 1 0), (4, .ptr 2 0), (5, .ptr 3 0)]) [some (.cells [.nilS, .nilS]), some (.cells [I64 0]), some (.cells [I64 0]), some (.cells [.str s, I64 k])] = pb0_t s k := by kernel_rfl
def pb1_p : Plan := .fork (.fork (.all) (.fork (.all) (.all))) (.all)
noncomputable def pb1_t (s : List UInt8) (k : Int) (us : List (Int × Int × Int)) (ts : List (Int × Int × Int)) : Tree StopX :=
   .req (small s) (.node (wOk s k [[102, 97, 99, 101, 116], [101, 110, 100, 115, 111, 108, 105, 100]])
  (.node (nthW (nWords s k) 0 == [102, 97, 99, 101, 116])
   (.leaf (StopX.at (loopOf Tryd.prog 17 1) 52 (slotsS 52 [(2, SV.ptr 0 0), (3, SV.ptr 1 0), (4, SV.ptr 2 0), (5, SV.ptr 3 0), (6, I64 (us.length : Int)), (25, I64 0)]) [some (Box.cells [SV.row 4, SV.row 5]), some (Box.cells [I64 0]), some (Box.cells [I64 0]), some (Box.cells [SV.str (nRest s k), I64 (nLine s k)]), some (Box.rows v3 us), some (Box.rows v3 ts)]))
   (.req (small (nRest s k)) (.node (eOk (nRest s k) (nLine s k))
     (.leaf (StopX.fin (Fin.ret (SV.tuple [SV.agg [SV.list v3 us, SV.list v3 ts], I64 0, I64 0]) [some (Box.cells [SV.list v3 us, SV.list v3 ts]), some (Box.cells [I64 0]), some (Box.cells [I64 0])])))
     (.leaf (StopX.fin (Fin.pan (prob (eLine (nRest s k) (nLine s k)) 5) [some (Box.cells [SV.list v3 us, SV.list v3 ts]), some (Box.cells [I64 0]), some (Box.cells [I64 0])]))))))
  (.leaf (StopX.fin (Fin.pan (prob (nLine s k) (wErr s k)) [some (Box.cells [SV.list v3 us, SV.list v3 ts]), some (Box.cells [I64 0]), some (Box.cells [I64 0])]))))
theorem pb1 (s : List UInt8) (k : Int) (us : List (Int × Int × Int)) (ts : List (Int × Int × Int)) : segY (Env.ofB Tryd.prog (sumOf []) (wrOf []) (pnOf [fWord, BFact.toP fEnd, BFact.toP fVertex]) (bxOf [fEnd, fVertex]) (rdOf []) (rdOf []) (rdOf []) (rdOf [])) 1000 (fnOf Tryd.prog 17) 3 [(2, 0), (3, 1), (4, 2)] (keepS 52 [2,3,4,5,6,25]) (loopOf Tryd.prog 17 0) pb1_p (slotsS 52 [(2, .ptr 0 0), (3, .ptr 1 0), (4, .ptr 2 0), (5, .ptr 3 0)]) [some (.cells [.row 4, .row 5]), some (.cells [I64 0]), some (.cells [I64 0]), some (.cells [.str s, I64 k]), some (.rows (.pair (.int .i64) (.pair (.int .i64) (.int .i64))) us), some (.rows (.pair (.int .i64) (.pair (.int .i64) (.int .i64))) ts)] = pb1_t s k us ts := by kernel_rfl
def pc0_p : Plan := .fork (.fork (.fork (.all) (.all)) (.all)) (.fork (.all) (.all))
noncomputable def pc0_t (s : List UInt8) (k : Int) (n i : Int) : Tree StopX :=
   .node (decide (i < 3))
 (.req (small s) (.node (decide (vErr s k = 0))
   (.req (small s) (.node (decide (vErr s k = 0))
     (.req (decide ([cTri (nWords s k)].length * 24 ≤ 140737488355328)) (.leaf (StopX.at (loopOf Tryd.prog 17 1) 52 (slotsS 52 [(2, SV.ptr 0 0), (3, SV.ptr 1 0), (4, SV.ptr 2 0), (5, SV.ptr 3 0), (6, I64 n), (25, I64 (IntKind.i64.wrap (i + 1)))]) [some (Box.cells [SV.row 4, SV.nilS]), some (Box.cells [I64 0]), some (Box.cells [I64 0]), some (Box.cells [SV.str (nRest s k), I64 (nLine s k)]), some (Box.rows v3 [cTri (nWords s k)])])))
     (.fail 177)))
   (.leaf (StopX.fin (Fin.pan (prob (nLine s k) (vErr s k)) [some (Box.cells [SV.nilS, SV.nilS]), some (Box.cells [I64 0]), some (Box.cells [I64 0])])))))
 (.req (small s) (.node (wOk s k [[101, 110, 100, 102, 97, 99, 101, 116]])
   (.req (decide ([tri n].length * 24 ≤ 140737488355328)) (.leaf (StopX.at (loopOf Tryd.prog 17 0) 52 (slotsS 52 [(2, SV.ptr 0 0), (3, SV.ptr 1 0), (4, SV.ptr 2 0), (5, SV.ptr 3 0), (6, I64 n), (25, I64 i)]) [some (Box.cells [SV.nilS, SV.row 4]), some (Box.cells [I64 0]), some (Box.cells [I64 0]), some (Box.cells [SV.str (nRest s k), I64 (nLine s k)]), some (Box.rows v3 [tri n])])))
   (.leaf (StopX.fin (Fin.pan (prob (nLine s k) (wErr s k)) [some (Box.cells [SV.nilS, SV.nilS]), some (Box.cells [I64 0]), some (Box.cells [I64 0])])))))
theorem pc0 (s : List UInt8) (k : Int) (n i : Int) : segY (Env.ofB Tryd.prog (sumOf []) (wrOf []) (pnOf [fWord, BFact.toP fEnd, BFact.toP fVertex]) (bxOf [fEnd, fVertex]) (rdOf []) (rdOf []) (rdOf []) (rdOf [])) 1000 (fnOf Tryd.prog 17) 3 [(2, 0), (3, 1), (4, 2)] (keepS 52 [2,3,4,5,6,25]) (loopOf Tryd.prog 17 1) pc0_p (slotsS 52 [(2, .ptr 0 0), (3, .ptr 1 0), (4, .ptr 2 0), (5, .ptr 3 0), (6, I64 n), (25, I64 i)]) [some (.cells [.nilS, .nilS]), some (.cells [I64 0]), some (.cells [I64 0]), some (.cells [.str s, I64 k])] = pc0_t s k n i := by kernel_rfl
def pc1_p : Plan := .fork (.fork (.fork (.all) (.all)) (.all)) (.fork (.all) (.all))
noncomputable def pc1_t (s : List UInt8) (k : Int) (us : List (Int × Int × Int)) (n i : Int) : Tree StopX :=
   .node (decide (i < 3))
 (.req (small s) (.node (decide (vErr s k = 0))
   (.req (small s) (.node (decide (vErr s k = 0))
     (.req (decide ((us.length + [cTri (nWords s k)].length) * 24 ≤ 140737488355328)) (.leaf (StopX.at (loopOf Tryd.prog 17 1) 52 (slotsS 52 [(2, SV.ptr 0 0), (3, SV.ptr 1 0), (4, SV.ptr 2 0), (5, SV.ptr 3 0), (6, I64 n), (25, I64 (IntKind.i64.wrap (i + 1)))]) [some (Box.cells [SV.row 4, SV.nilS]), some (Box.cells [I64 0]), some (Box.cells [I64 0]), some (Box.cells [SV.str (nRest s k), I64 (nLine s k)]), some (Box.rows v3 (us ++ [cTri (nWords s k)]))])))
     (.fail 177)))
   (.leaf (StopX.fin (Fin.pan (prob (nLine s k) (vErr s k)) [some (Box.cells [SV.list v3 us, SV.nilS]), some (Box.cells [I64 0]), some (Box.cells [I64 0])])))))
 (.req (small s) (.node (wOk s k [[101, 110, 100, 102, 97, 99, 101, 116]])
   (.req (decide ([tri n].length * 24 ≤ 140737488355328)) (.leaf (StopX.at (loopOf Tryd.prog 17 0) 52 (slotsS 52 [(2, SV.ptr 0 0), (3, SV.ptr 1 0), (4, SV.ptr 2 0), (5, SV.ptr 3 0), (6, I64 n), (25, I64 i)]) [some (Box.cells [SV.row 4, SV.row 5]), some (Box.cells [I64 0]), some (Box.cells [I64 0]), some (Box.cells [SV.str (nRest s k), I64 (nLine s k)]), some (Box.rows v3 us), some (Box.rows v3 [tri n])])))
   (.leaf (StopX.fin (Fin.pan (prob (nLine s k) (wErr s k)) [some (Box.cells [SV.list v3 us, SV.nilS]), some (Box.cells [I64 0]), some (Box.cells [I64 0])])))))
theorem pc1 (s : List UInt8) (k : Int) (us : List (Int × Int × Int)) (n i : Int) : segY (Env.ofB Tryd.prog (sumOf []) (wrOf []) (pnOf [fWord, BFact.toP fEnd, BFact.toP fVertex]) (bxOf [fEnd, fVertex]) (rdOf []) (rdOf []) (rdOf []) (rdOf [])) 1000 (fnOf Tryd.prog 17) 3 [(2, 0), (3, 1), (4, 2)] (keepS 52 [2,3,4,5,6,25]) (loopOf Tryd.prog 17 1) pc1_p (slotsS 52 [(2, .ptr 0 0), (3, .ptr 1 0), (4, .ptr 2 0), (5, .ptr 3 0), (6, I64 n), (25, I64 i)]) [some (.cells [.row 4, .nilS]), some (.cells [I64 0]), some (.cells [I64 0]), some (.cells [.str s, I64 k]), some (.rows (.pair (.int .i64) (.pair (.int .i64) (.int .i64))) us)] = pc1_t s k us n i := by kernel_rfl
def pc2_p : Plan := .fork (.fork (.fork (.all) (.all)) (.all)) (.fork (.all) (.all))
noncomputable def pc2_t (s : List UInt8) (k : Int) (us : List (Int × Int × Int)) (ts : List (Int × Int × Int)) (n i : Int) : Tree StopX :=
   .node (decide (i < 3))
 (.req (small s) (.node (decide (vErr s k = 0))
   (.req (small s) (.node (decide (vErr s k = 0))
     (.req (decide ((us.length + [cTri (nWords s k)].length) * 24 ≤ 140737488355328)) (.leaf (StopX.at (loopOf Tryd.prog 17 1) 52 (slotsS 52 [(2, SV.ptr 0 0), (3, SV.ptr 1 0), (4, SV.ptr 2 0), (5, SV.ptr 3 0), (6, I64 n), (25, I64 (IntKind.i64.wrap (i + 1)))]) [some (Box.cells [SV.row 4, SV.row 5]), some (Box.cells [I64 0]), some (Box.cells [I64 0]), some (Box.cells [SV.str (nRest s k), I64 (nLine s k)]), some (Box.rows v3 (us ++ [cTri (nWords s k)])), some (Box.rows v3 ts)])))
     (.fail 177)))
   (.leaf (StopX.fin (Fin.pan (prob (nLine s k) (vErr s k)) [some (Box.cells [SV.list v3 us, SV.list v3 ts]), some (Box.cells [I64 0]), some (Box.cells [I64 0])])))))
 (.req (small s) (.node (wOk s k [[101, 110, 100, 102, 97, 99, 101, 116]])
   (.req (decide ((ts.length + [tri n].length) * 24 ≤ 140737488355328)) (.leaf (StopX.at (loopOf Tryd.prog 17 0) 52 (slotsS 52 [(2, SV.ptr 0 0), (3, SV.ptr 1 0), (4, SV.ptr 2 0), (5, SV.ptr 3 0), (6, I64 n), (25, I64 i)]) [some (Box.cells [SV.row 4, SV.row 5]), some (Box.cells [I64 0]), some (Box.cells [I64 0]), some (Box.cells [SV.str (nRest s k), I64 (nLine s k)]), some (Box.rows v3 us), some (Box.rows v3 (ts ++ [tri n]))])))
   (.leaf (StopX.fin (Fin.pan (prob (nLine s k) (wErr s k)) [some (Box.cells [SV.list v3 us, SV.list v3 ts]), some (Box.cells [I64 0]), some (Box.cells [I64 0])])))))
theorem pc2 (s : List UInt8) (k : Int) (us : List (Int × Int × Int)) (ts : List (Int × Int × Int)) (n i : Int) : segY (Env.ofB Tryd.prog (sumOf []) (wrOf []) (pnOf [fWord, BFact.toP fEnd, BFact.toP fVertex]) (bxOf [fEnd, fVertex]) (rdOf []) (rdOf []) (rdOf []) (rdOf [])) 1000 (fnOf Tryd.prog 17) 3 [(2, 0), (3, 1), (4, 2)] (keepS 52 [2,3,4,5,6,25]) (loopOf Tryd.prog 17 1) pc2_p (slotsS 52 [(2, .ptr 0 0), (3, .ptr 1 0), (4, .ptr 2 0), (5, .ptr 3 0), (6, I64 n), (25, I64 i)]) [some (.cells [.row 4, .row 5]), some (.cells [I64 0]), some (.cells [I64 0]), some (.cells [.str s, I64 k]), some (.rows (.pair (.int .i64) (.pair (.int .i64) (.int .i64))) us), some (.rows (.pair (.int .i64) (.pair (.int .i64) (.int .i64))) ts)] = pc2_t s k us ts n i := by kernel_rfl
end Go.Proofs.YtlhkgeoahblffaaDoor
set_option linter.unusedSimpArgs false
set_option linter.unusedVariables false
set_option maxRecDepth 100000
namespace Go.Proofs.YtlhkgeoahblffaaDoor
open Go.Sx
/-- Where the deferred call recovers. -/
noncomputable def it34 : List Item := stopIt (segX (Env.ofB Tryd.prog (sumOf []) (wrOf []) (pnOf []) (bxOf []) (rdOf []) (rdOf []) (rdOf []) (rdOf [0])) 1000 (fnOf Tryd.prog 34) 0 (keepS 16 [0,1,2]) (codeS Tryd.prog 34) .all (startS Tryd.prog 34 [.ptr 0 0, .ptr 1 0, .ptr 2 0]) [])
noncomputable def ops34 : Array Oper := headOps it34
def qa1_p : Plan := .lit (.all)
noncomputable def qa1_t  : Tree StopX :=
   .leaf (StopX.fin (Fin.ret (SV.tuple []) [some (Box.cells [SV.nilS, SV.nilS]), some (Box.cells [I64 0]), some (Box.cells [I64 0])]))
theorem qa1  : segX (Env.ofB Tryd.prog (sumOf []) (wrOf []) (pnOf []) (bxOf []) (rdOf []) (rdOf []) (rdOf []) (rdOf [])) 1000 (fnOf Tryd.prog 34) 3  (keepS 16 []) (Item.inRegion ops34 (List.range' 1 (ops34.size - 1)) :: it34.tail) qa1_p (slotsS 16 [(0, .ptr 0 0), (1, .ptr 1 0), (2, .ptr 2 0), (6, .raw .nilIface)]) [some (.cells [.nilS, .nilS]), some (.cells [I64 0]), some (.cells [I64 0])] = qa1_t  := by kernel_rfl
def qa2_p : Plan := .lit (.all)
noncomputable def qa2_t (us ts : List (Int × Int × Int)) : Tree StopX :=
   .leaf (StopX.fin (Fin.ret (SV.tuple []) [some (Box.cells [SV.list v3 us, SV.list v3 ts]), some (Box.cells [I64 0]), some (Box.cells [I64 0])]))
theorem qa2 (us ts : List (Int × Int × Int)) : segX (Env.ofB Tryd.prog (sumOf []) (wrOf []) (pnOf []) (bxOf []) (rdOf []) (rdOf []) (rdOf []) (rdOf [])) 1000 (fnOf Tryd.prog 34) 3  (keepS 16 []) (Item.inRegion ops34 (List.range' 1 (ops34.size - 1)) :: it34.tail) qa2_p (slotsS 16 [(0, .ptr 0 0), (1, .ptr 1 0), (2, .ptr 2 0), (6, .raw .nilIface)]) [some (.cells [.list v3 us, .list v3 ts]), some (.cells [I64 0]), some (.cells [I64 0])] = qa2_t us ts := by kernel_rfl
def qb1_p : Plan := .lit (.all)
noncomputable def qb1_t (k e : Int) : Tree StopX :=
   .leaf (StopX.fin (Fin.ret (SV.tuple []) [some (Box.cells [SV.nilS, SV.nilS]), some (Box.cells [I64 k]), some (Box.cells [I64 e])]))
theorem qb1 (k e : Int) : segX (Env.ofB Tryd.prog (sumOf []) (wrOf []) (pnOf []) (bxOf []) (rdOf []) (rdOf []) (rdOf []) (rdOf [])) 1000 (fnOf Tryd.prog 34) 3  (keepS 16 []) (Item.inRegion ops34 (List.range' 1 (ops34.size - 1)) :: it34.tail) qb1_p (slotsS 16 [(0, .ptr 0 0), (1, .ptr 1 0), (2, .ptr 2 0), (6, prob k e)]) [some (.cells [.nilS, .nilS]), some (.cells [I64 0]), some (.cells [I64 0])] = qb1_t k e := by kernel_rfl
def qb2_p : Plan := .lit (.all)
noncomputable def qb2_t (k e : Int) (us : List (Int × Int × Int)) : Tree StopX :=
   .leaf (StopX.fin (Fin.ret (SV.tuple []) [some (Box.cells [SV.nilS, SV.nilS]), some (Box.cells [I64 k]), some (Box.cells [I64 e])]))
theorem qb2 (k e : Int) (us : List (Int × Int × Int)) : segX (Env.ofB Tryd.prog (sumOf []) (wrOf []) (pnOf []) (bxOf []) (rdOf []) (rdOf []) (rdOf []) (rdOf [])) 1000 (fnOf Tryd.prog 34) 3  (keepS 16 []) (Item.inRegion ops34 (List.range' 1 (ops34.size - 1)) :: it34.tail) qb2_p (slotsS 16 [(0, .ptr 0 0), (1, .ptr 1 0), (2, .ptr 2 0), (6, prob k e)]) [some (.cells [.list v3 us, .nilS]), some (.cells [I64 0]), some (.cells [I64 0])] = qb2_t k e us := by kernel_rfl
def qb3_p : Plan := .lit (.all)
noncomputable def qb3_t (k e : Int) (us ts : List (Int × Int × Int)) : Tree StopX :=
   .leaf (StopX.fin (Fin.ret (SV.tuple []) [some (Box.cells [SV.nilS, SV.nilS]), some (Box.cells [I64 k]), some (Box.cells [I64 e])]))
theorem qb3 (k e : Int) (us ts : List (Int × Int × Int)) : segX (Env.ofB Tryd.prog (sumOf []) (wrOf []) (pnOf []) (bxOf []) (rdOf []) (rdOf []) (rdOf []) (rdOf [])) 1000 (fnOf Tryd.prog 34) 3  (keepS 16 []) (Item.inRegion ops34 (List.range' 1 (ops34.size - 1)) :: it34.tail) qb3_p (slotsS 16 [(0, .ptr 0 0), (1, .ptr 1 0), (2, .ptr 2 0), (6, prob k e)]) [some (.cells [.list v3 us, .list v3 ts]), some (.cells [I64 0]), some (.cells [I64 0])] = qb3_t k e us ts := by kernel_rfl
end Go.Proofs.YtlhkgeoahblffaaDoor
set_option linter.unusedSimpArgs false
set_option linter.unusedVariables false
set_option maxRecDepth 100000
namespace Go.Proofs.YtlhkgeoahblffaaDoor
open Go.Sx

abbrev T3 := Int × Int × Int
abbrev solidW : List UInt8 := [115, 111, 108, 105, 100]
abbrev facetW : List UInt8 := [102, 97, 99, 101, 116]
abbrev endsolidW : List UInt8 := [101, 110, 100, 115, 111, 108, 105, 100]
abbrev endfacetW : List UInt8 := [101, 110, 100, 102, 97, 99, 101, 116]

inductive VR where
  | err (k e : Int)
  | ok (s : List UInt8) (k : Int) (us : List T3)
inductive PR where
  | err (k e : Int)
  | ok (us ts : List T3)
/-- So many vertices. -/
def pV : Nat → List UInt8 → Int → List T3 → VR
  | 0, s, k, us => .ok s k us
  | j + 1, s, k, us => if vErr s k = 0 then pV j (nRest s k) (nLine s k) (us ++ [cTri (nWords s k)]) else .err (nLine s k) (vErr s k)
/-- The facets. -/
def pF : Nat → List UInt8 → Int → List T3 → List T3 → PR
  | 0, _, _, _, _ => .err 0 0
  | n + 1, s, k, us, ts =>
    if wOk s k [facetW, endsolidW] = true then
      if nthW (nWords s k) 0 = facetW then
        match pV 3 (nRest s k) (nLine s k) us with
        | .err a b => .err a b
        | .ok s2 k2 us2 => if wOk s2 k2 [endfacetW] = true then pF n (nRest s2 k2) (nLine s2 k2) us2 (ts ++ [tri us.length]) else .err (nLine s2 k2) (wErr s2 k2)
      else if eOk (nRest s k) (nLine s k) = true then .ok us ts else .err (eLine (nRest s k) (nLine s k)) 5
    else .err (nLine s k) (wErr s k)
def pC (n j : Nat) (s : List UInt8) (k : Int) (us ts : List T3) (c : Int) : PR := match pV j s k us with
  | .err a b => .err a b
  | .ok s2 k2 us2 => if wOk s2 k2 [endfacetW] = true then pF n (nRest s2 k2) (nLine s2 k2) us2 (ts ++ [tri c]) else .err (nLine s2 k2) (wErr s2 k2)

/-! ### Each line takes some of the text -/

theorem nx_lt : ∀ (n : Nat) (s : List UInt8) (k : Int), (nx n s k).1.isSome = true → (nx n s k).2.1.length < s.length
  | 0, s, k, h => by cases h
  | n + 1, s, k, h => by
    unfold nx at h ⊢
    by_cases h0 : s = []
    · rw [if_pos h0] at h; cases h
    · rw [if_neg h0] at h ⊢
      have := (cut_len s h0).1
      by_cases h1 : 0 < (flds (lineOf s)).length
      · rw [if_pos h1]; exact this
      · rw [if_neg h1] at h ⊢
        exact Nat.lt_trans (nx_lt n _ _ h) this
theorem nRest_lt {s : List UInt8} {k : Int} (h : nOk s k = true) : (nRest s k).length < s.length := nx_lt _ s k h
theorem nRest_le (s : List UInt8) (k : Int) : (nRest s k).length ≤ s.length := nx_len _ s k
theorem nRest_small {s : List UInt8} {k : Int} (h : small s = true) : small (nRest s k) = true := small_le (nRest_le s k) h
theorem wOk_nOk {s : List UInt8} {k : Int} {l : List (List UInt8)} (h : wOk s k l = true) : nOk s k = true := by
  unfold wOk at h
  rw [Bool.and_eq_true] at h; exact h.1
theorem vErr_nOk {s : List UInt8} {k : Int} (h : vErr s k = 0) : nOk s k = true := by
  unfold vErr at h
  by_cases h1 : nOk s k = true
  · exact h1
  · rw [if_neg h1] at h; omega

/-! ### How it ends -/

abbrev bx3 (a b : SV) : List (Option Box) := [some (.cells [a, b]), some (.cells [I64 0]), some (.cells [I64 0])]
def badB (bs : List (Option Box)) : Prop := bs = bx3 .nilS .nilS ∨ (∃ us : List T3, bs = bx3 (.list v3 us) .nilS) ∨ ∃ us ts : List T3, bs = bx3 (.list v3 us) (.list v3 ts)
def good : Fin → PR → Prop
  | .pan p bs, .err k e => p = prob k e ∧ badB bs
  | .ret v bs, .ok us ts => (v = .tuple [.agg [.list v3 us, .list v3 ts], I64 0, I64 0] ∧ bs = bx3 (.list v3 us) (.list v3 ts)) ∨ (us = [] ∧ ts = [] ∧ v = .tuple [.agg [.nilS, .nilS], I64 0, I64 0] ∧ bs = bx3 .nilS .nilS)
  | _, _ => False

abbrev psP : List (Nat × Nat) := [(2, 0), (3, 1), (4, 2)]
def slA : List SV := slotsS 52 [(2, .ptr 0 0), (3, .ptr 1 0), (4, .ptr 2 0), (5, .ptr 3 0)]
def slC (c i : Int) : List SV := slotsS 52 [(2, .ptr 0 0), (3, .ptr 1 0), (4, .ptr 2 0), (5, .ptr 3 0), (6, I64 c), (25, I64 i)]
abbrev RY (ds : List Deferred) (r : Fin) (it : List Item) (sl : List SV) (bx : List (Option Box)) : Prop := RunsY Tryd.prog (fnOf Tryd.prog 17) ds 3 psP r it sl bx
abbrev bxA0 (s : List UInt8) (k : Int) : List (Option Box) := [some (.cells [.nilS, .nilS]), some (.cells [I64 0]), some (.cells [I64 0]), some (.cells [.str s, I64 k])]
abbrev bxA1 (s : List UInt8) (k : Int) (us ts : List T3) : List (Option Box) := [some (.cells [.row 4, .row 5]), some (.cells [I64 0]), some (.cells [I64 0]), some (.cells [.str s, I64 k]), some (.rows v3 us), some (.rows v3 ts)]
abbrev bxC1 (s : List UInt8) (k : Int) (us : List T3) : List (Option Box) := [some (.cells [.row 4, .nilS]), some (.cells [I64 0]), some (.cells [I64 0]), some (.cells [.str s, I64 k]), some (.rows v3 us)]
def End (res : PR) (it : List Item) (sl : List SV) (bx : List (Option Box)) : Prop := ∃ r, good r res ∧ ∀ ds, RY ds r it sl bx

def weaker : List SV → List SV → Prop
  | [], [] => True
  | x :: xs, y :: ys => (x = .top ∨ x = y) ∧ weaker xs ys
  | _, _ => False
theorem weaker_spec : ∀ {xs ys : List SV}, weaker xs ys → ys.length = xs.length ∧ ∀ i : Nat, xs.getD i .undef = .top ∨ xs.getD i .undef = ys.getD i .undef
  | [], [], _ => ⟨rfl, fun i => .inr rfl⟩
  | x :: xs, y :: ys, h => by
    obtain ⟨h1, h2⟩ := weaker_spec h.2
    refine ⟨by simp [h1], fun i => ?_⟩
    cases i with
    | zero => exact h.1
    | succ i => simpa using h2 i
theorem slC_weaker (c i : Int) : weaker slA (slC c i) := by
  unfold slA slC
  simp only [slotsS]
  repeat' first | exact trivial | exact .inl rfl | exact .inr rfl | refine ⟨?_, ?_⟩
theorem End.more {res : PR} {c i : Int} {it : List Item} {bx : List (Option Box)} (h : End res it slA bx) : End res it (slC c i) bx := by
  obtain ⟨r, h1, h2⟩ := h
  obtain ⟨w1, w2⟩ := weaker_spec (slC_weaker c i)
  exact ⟨r, h1, fun ds => runsY_top (h2 ds) w1 w2⟩

theorem pOk : ∀ x ∈ [fWord, BFact.toP fEnd, BFact.toP fVertex], x.ok Tryd.prog := fun x hx => by
  simp only [List.mem_cons, List.not_mem_nil, or_false] at hx
  rcases hx with rfl | rfl | rfl
  · exact o_word
  · exact BFact.toP_ok o_end
  · exact BFact.toP_ok o_vertex
theorem bOk : ∀ x ∈ [fEnd, fVertex], x.ok Tryd.prog := fun x hx => by
  simp only [List.mem_cons, List.not_mem_nil, or_false] at hx
  rcases hx with rfl | rfl
  · exact o_end
  · exact o_vertex
theorem kP : Known Tryd.prog (Env.ofB Tryd.prog (sumOf []) (wrOf []) (pnOf [fWord, BFact.toP fEnd, BFact.toP fVertex]) (bxOf [fEnd, fVertex]) (rdOf []) (rdOf []) (rdOf []) (rdOf [])) := hB (l := []) [] [] [] [] trivial noneOk pOk bOk

theorem wr_i {i : Nat} (h : i < 3) : IntKind.i64.wrap ((i : Int) + 1) = ((i + 1 : Nat) : Int) := by rw [i64_def]; split <;> omega

theorem c1 (n : Nat) (IH : ∀ s k us ts, s.length < n → small s = true → List.length us + s.length ≤ 100000 → List.length ts + s.length ≤ 100000 → End (pF n s k us ts) (loopOf Tryd.prog 17 0) slA (bxA1 s k us ts)) : ∀ (j i : Nat), i + j = 3 → ∀ (s : List UInt8) (k : Int) (us : List T3) (c : Int), s.length < n → small s = true → us.length + s.length ≤ 100000 → ([] : List T3).length + s.length ≤ 100000 → End (pC n j s k us ([] : List T3) c) (loopOf Tryd.prog 17 1) (slC c (i : Int)) (bxC1 s k us)
  | 0, i, hi, s, k, us, c, hn, hs, hu, ht => by
    have hi3 : i = 3 := by omega
    subst hi3
    by_cases hw : wOk s k [endfacetW] = true
    · have hlt := nRest_lt (wOk_nOk hw)
      obtain ⟨r, g1, g2⟩ := (IH (nRest s k) (nLine s k) us (([] : List T3) ++ [tri c]) (by omega) (nRest_small hs) (by omega) (by first | omega | (simp at ht ⊢; omega))).more (c := c) (i := ((3 : Nat) : Int))
      refine ⟨r, by unfold pC pV; dsimp only; rw [if_pos hw]; exact g1, fun ds => runsY_seg kP (n := 1000) (keep := keepS 52 [2, 3, 4, 5, 6, 25]) (p := pc1_p) (Nat.le_of_ble_eq_true rfl) ?_⟩
      erw [pc1 s k us c ((3 : Nat) : Int)]
      unfold pc1_t
      exact ⟨fun h => absurd (of_decide_eq_true h) (by omega), fun _ => ⟨hs, fun _ => ⟨decide_eq_true (by first | (simp; done) | (simp; omega)), slotsS_len _ _, g2 ds⟩, fun h => by rw [hw] at h; cases h⟩⟩
    · refine ⟨.pan (prob (nLine s k) (wErr s k)) (bx3 (.list v3 us) .nilS), by unfold pC pV; dsimp only; rw [if_neg hw]; exact ⟨rfl, .inr (.inl ⟨us, rfl⟩)⟩, fun ds => runsY_seg kP (n := 1000) (keep := keepS 52 [2, 3, 4, 5, 6, 25]) (p := pc1_p) (Nat.le_of_ble_eq_true rfl) ?_⟩
      erw [pc1 s k us c ((3 : Nat) : Int)]
      unfold pc1_t
      exact ⟨fun h => absurd (of_decide_eq_true h) (by omega), fun _ => ⟨hs, fun h => absurd h hw, fun _ => rfl⟩⟩
  | j + 1, i, hi, s, k, us, c, hn, hs, hu, ht => by
    have hi3 : i < 3 := by omega
    by_cases hv : vErr s k = 0
    · have hlt := nRest_lt (vErr_nOk hv)
      obtain ⟨r, g1, g2⟩ := c1 n IH j (i + 1) (by omega) (nRest s k) (nLine s k) (us ++ [cTri (nWords s k)])  c (by omega) (nRest_small hs) (by simp; omega) (by first | omega | (simp at ht ⊢; omega))
      refine ⟨r, by unfold pC pV; rw [if_pos hv]; exact g1, fun ds => runsY_seg kP (n := 1000) (keep := keepS 52 [2, 3, 4, 5, 6, 25]) (p := pc1_p) (Nat.le_of_ble_eq_true rfl) ?_⟩
      erw [pc1 s k us c (i : Int)]
      unfold pc1_t
      rw [wr_i hi3]
      exact ⟨fun _ => ⟨hs, fun _ => ⟨hs, fun _ => ⟨decide_eq_true (by simp; omega), slotsS_len _ _, g2 ds⟩, fun h => absurd hv (of_decide_eq_false h)⟩, fun h => absurd hv (of_decide_eq_false h)⟩, fun h => absurd (show ((i : Int) < 3) by omega) (of_decide_eq_false h)⟩
    · refine ⟨.pan (prob (nLine s k) (vErr s k)) (bx3 (.list v3 us) .nilS), by unfold pC pV; rw [if_neg hv]; exact ⟨rfl, .inr (.inl ⟨us, rfl⟩)⟩, fun ds => runsY_seg kP (n := 1000) (keep := keepS 52 [2, 3, 4, 5, 6, 25]) (p := pc1_p) (Nat.le_of_ble_eq_true rfl) ?_⟩
      erw [pc1 s k us c (i : Int)]
      unfold pc1_t
      exact ⟨fun _ => ⟨hs, fun h => absurd (of_decide_eq_true h) hv, fun _ => rfl⟩, fun h => absurd (show ((i : Int) < 3) by omega) (of_decide_eq_false h)⟩

theorem c2 (n : Nat) (IH : ∀ s k us ts, s.length < n → small s = true → List.length us + s.length ≤ 100000 → List.length ts + s.length ≤ 100000 → End (pF n s k us ts) (loopOf Tryd.prog 17 0) slA (bxA1 s k us ts)) : ∀ (j i : Nat), i + j = 3 → ∀ (s : List UInt8) (k : Int) (us ts : List T3) (c : Int), s.length < n → small s = true → us.length + s.length ≤ 100000 → ts.length + s.length ≤ 100000 → End (pC n j s k us ts c) (loopOf Tryd.prog 17 1) (slC c (i : Int)) (bxA1 s k us ts)
  | 0, i, hi, s, k, us, ts, c, hn, hs, hu, ht => by
    have hi3 : i = 3 := by omega
    subst hi3
    by_cases hw : wOk s k [endfacetW] = true
    · have hlt := nRest_lt (wOk_nOk hw)
      obtain ⟨r, g1, g2⟩ := (IH (nRest s k) (nLine s k) us (ts ++ [tri c]) (by omega) (nRest_small hs) (by omega) (by first | omega | (simp at ht ⊢; omega))).more (c := c) (i := ((3 : Nat) : Int))
      refine ⟨r, by unfold pC pV; dsimp only; rw [if_pos hw]; exact g1, fun ds => runsY_seg kP (n := 1000) (keep := keepS 52 [2, 3, 4, 5, 6, 25]) (p := pc2_p) (Nat.le_of_ble_eq_true rfl) ?_⟩
      erw [pc2 s k us ts c ((3 : Nat) : Int)]
      unfold pc2_t
      exact ⟨fun h => absurd (of_decide_eq_true h) (by omega), fun _ => ⟨hs, fun _ => ⟨decide_eq_true (by first | (simp; done) | (simp; omega)), slotsS_len _ _, g2 ds⟩, fun h => by rw [hw] at h; cases h⟩⟩
    · refine ⟨.pan (prob (nLine s k) (wErr s k)) (bx3 (.list v3 us) (.list v3 ts)), by unfold pC pV; dsimp only; rw [if_neg hw]; exact ⟨rfl, .inr (.inr ⟨us, ts, rfl⟩)⟩, fun ds => runsY_seg kP (n := 1000) (keep := keepS 52 [2, 3, 4, 5, 6, 25]) (p := pc2_p) (Nat.le_of_ble_eq_true rfl) ?_⟩
      erw [pc2 s k us ts c ((3 : Nat) : Int)]
      unfold pc2_t
      exact ⟨fun h => absurd (of_decide_eq_true h) (by omega), fun _ => ⟨hs, fun h => absurd h hw, fun _ => rfl⟩⟩
  | j + 1, i, hi, s, k, us, ts, c, hn, hs, hu, ht => by
    have hi3 : i < 3 := by omega
    by_cases hv : vErr s k = 0
    · have hlt := nRest_lt (vErr_nOk hv)
      obtain ⟨r, g1, g2⟩ := c2 n IH j (i + 1) (by omega) (nRest s k) (nLine s k) (us ++ [cTri (nWords s k)]) ts c (by omega) (nRest_small hs) (by simp; omega) (by first | omega | (simp at ht ⊢; omega))
      refine ⟨r, by unfold pC pV; rw [if_pos hv]; exact g1, fun ds => runsY_seg kP (n := 1000) (keep := keepS 52 [2, 3, 4, 5, 6, 25]) (p := pc2_p) (Nat.le_of_ble_eq_true rfl) ?_⟩
      erw [pc2 s k us ts c (i : Int)]
      unfold pc2_t
      rw [wr_i hi3]
      exact ⟨fun _ => ⟨hs, fun _ => ⟨hs, fun _ => ⟨decide_eq_true (by simp; omega), slotsS_len _ _, g2 ds⟩, fun h => absurd hv (of_decide_eq_false h)⟩, fun h => absurd hv (of_decide_eq_false h)⟩, fun h => absurd (show ((i : Int) < 3) by omega) (of_decide_eq_false h)⟩
    · refine ⟨.pan (prob (nLine s k) (vErr s k)) (bx3 (.list v3 us) (.list v3 ts)), by unfold pC pV; rw [if_neg hv]; exact ⟨rfl, .inr (.inr ⟨us, ts, rfl⟩)⟩, fun ds => runsY_seg kP (n := 1000) (keep := keepS 52 [2, 3, 4, 5, 6, 25]) (p := pc2_p) (Nat.le_of_ble_eq_true rfl) ?_⟩
      erw [pc2 s k us ts c (i : Int)]
      unfold pc2_t
      exact ⟨fun _ => ⟨hs, fun h => absurd (of_decide_eq_true h) hv, fun _ => rfl⟩, fun h => absurd (show ((i : Int) < 3) by omega) (of_decide_eq_false h)⟩

theorem c0 (n : Nat) (IH : ∀ s k us ts, s.length < n → small s = true → List.length us + s.length ≤ 100000 → List.length ts + s.length ≤ 100000 → End (pF n s k us ts) (loopOf Tryd.prog 17 0) slA (bxA1 s k us ts)) (s : List UInt8) (k : Int) (c : Int) (hn : s.length < n) (hs : small s = true) (hu : s.length ≤ 100000) : End (pC n 3 s k [] [] c) (loopOf Tryd.prog 17 1) (slC c 0) (bxA0 s k) := by
  by_cases hv : vErr s k = 0
  · have hlt := nRest_lt (vErr_nOk hv)
    obtain ⟨r, g1, g2⟩ := c1 n IH 2 1 rfl (nRest s k) (nLine s k) [cTri (nWords s k)] c (by omega) (nRest_small hs) (by simp; omega) (by simp; omega)
    refine ⟨r, by unfold pC pV; rw [if_pos hv]; exact g1, fun ds => runsY_seg kP (n := 1000) (keep := keepS 52 [2, 3, 4, 5, 6, 25]) (p := pc0_p) (Nat.le_of_ble_eq_true rfl) ?_⟩
    erw [pc0 s k c 0]
    unfold pc0_t
    exact ⟨fun _ => ⟨hs, fun _ => ⟨hs, fun _ => ⟨decide_eq_true (by simp), slotsS_len _ _, g2 ds⟩, fun h => absurd hv (of_decide_eq_false h)⟩, fun h => absurd hv (of_decide_eq_false h)⟩, fun h => absurd (show ((0 : Int) < 3) by decide) (of_decide_eq_false h)⟩
  · refine ⟨.pan (prob (nLine s k) (vErr s k)) (bx3 .nilS .nilS), by unfold pC pV; rw [if_neg hv]; exact ⟨rfl, .inl rfl⟩, fun ds => runsY_seg kP (n := 1000) (keep := keepS 52 [2, 3, 4, 5, 6, 25]) (p := pc0_p) (Nat.le_of_ble_eq_true rfl) ?_⟩
    erw [pc0 s k c 0]
    unfold pc0_t
    exact ⟨fun _ => ⟨hs, fun h => absurd (of_decide_eq_true h) hv, fun _ => rfl⟩, fun h => absurd (show ((0 : Int) < 3) by decide) (of_decide_eq_false h)⟩
end Go.Proofs.YtlhkgeoahblffaaDoor
set_option linter.unusedSimpArgs false
set_option linter.unusedVariables false
set_option maxRecDepth 100000
namespace Go.Proofs.YtlhkgeoahblffaaDoor
open Go.Sx

theorem a1 : ∀ (n : Nat) (s : List UInt8) (k : Int) (us ts : List T3), s.length < n → small s = true → us.length + s.length ≤ 100000 → ts.length + s.length ≤ 100000 → End (pF n s k us ts) (loopOf Tryd.prog 17 0) slA (bxA1 s k us ts)
  | 0, s, k, us, ts, hn, _, _, _ => absurd hn (Nat.not_lt_zero _)
  | n + 1, s, k, us, ts, hn, hs, hu, ht => by
    have seg : ∀ (res : PR) (r : Fin), good r res → (∀ ds, (pb1_t s k us ts).holds fun o => match o with
        | .fin r' => r' = r
        | .at items' size slots' boxes' => slots'.length = size ∧ RY ds r items' slots' boxes') → End res (loopOf Tryd.prog 17 0) slA (bxA1 s k us ts) := fun res r g h => by
      refine ⟨r, g, fun ds => runsY_seg kP (n := 1000) (keep := keepS 52 [2, 3, 4, 5, 6, 25]) (p := pb1_p) (Nat.le_of_ble_eq_true rfl) ?_⟩
      erw [pb1 s k us ts]
      exact h ds
    unfold pF
    by_cases hw : wOk s k [facetW, endsolidW] = true
    · have hlt := nRest_lt (wOk_nOk hw)
      rw [if_pos hw]
      by_cases hf : nthW (nWords s k) 0 = facetW
      · rw [if_pos hf]
        obtain ⟨r, g1, g2⟩ := c2 n (fun s k us ts h1 h2 h3 h4 => a1 n s k us ts h1 h2 h3 h4) 3 0 rfl (nRest s k) (nLine s k) us ts us.length (by omega) (nRest_small hs) (by omega) (by omega)
        refine seg _ r g1 fun ds => ?_
        unfold pb1_t
        exact ⟨hs, fun _ => ⟨fun _ => ⟨slotsS_len _ _, g2 ds⟩, fun h => by rw [beq_eq_false_iff_ne] at h; exact absurd hf h⟩, fun h => by rw [hw] at h; cases h⟩
      · rw [if_neg hf]
        by_cases he : eOk (nRest s k) (nLine s k) = true
        · rw [if_pos he]
          refine seg _ (.ret (.tuple [.agg [.list v3 us, .list v3 ts], I64 0, I64 0]) (bx3 (.list v3 us) (.list v3 ts))) (.inl ⟨rfl, rfl⟩) fun ds => ?_
          unfold pb1_t
          exact ⟨hs, fun _ => ⟨fun h => absurd (beq_iff_eq.1 h) hf, fun _ => ⟨nRest_small hs, fun _ => rfl, fun h => by rw [he] at h; cases h⟩⟩, fun h => by rw [hw] at h; cases h⟩
        · rw [if_neg he]
          refine seg _ (.pan (prob (eLine (nRest s k) (nLine s k)) 5) (bx3 (.list v3 us) (.list v3 ts))) ⟨rfl, .inr (.inr ⟨us, ts, rfl⟩)⟩ fun ds => ?_
          unfold pb1_t
          exact ⟨hs, fun _ => ⟨fun h => absurd (beq_iff_eq.1 h) hf, fun _ => ⟨nRest_small hs, fun h => absurd h he, fun _ => rfl⟩⟩, fun h => by rw [hw] at h; cases h⟩
    · rw [if_neg hw]
      refine seg _ (.pan (prob (nLine s k) (wErr s k)) (bx3 (.list v3 us) (.list v3 ts))) ⟨rfl, .inr (.inr ⟨us, ts, rfl⟩)⟩ fun ds => ?_
      unfold pb1_t
      exact ⟨hs, fun h => absurd h hw, fun _ => rfl⟩

theorem a0 : ∀ (n : Nat) (s : List UInt8) (k : Int), s.length < n → small s = true → s.length ≤ 100000 → End (pF n s k [] []) (loopOf Tryd.prog 17 0) slA (bxA0 s k)
  | 0, s, k, hn, _, _ => absurd hn (Nat.not_lt_zero _)
  | n + 1, s, k, hn, hs, hu => by
    have seg : ∀ (res : PR) (r : Fin), good r res → (∀ ds, (pb0_t s k).holds fun o => match o with
        | .fin r' => r' = r
        | .at items' size slots' boxes' => slots'.length = size ∧ RY ds r items' slots' boxes') → End res (loopOf Tryd.prog 17 0) slA (bxA0 s k) := fun res r g h => by
      refine ⟨r, g, fun ds => runsY_seg kP (n := 1000) (keep := keepS 52 [2, 3, 4, 5, 6, 25]) (p := pb0_p) (Nat.le_of_ble_eq_true rfl) ?_⟩
      erw [pb0 s k]
      exact h ds
    unfold pF
    by_cases hw : wOk s k [facetW, endsolidW] = true
    · have hlt := nRest_lt (wOk_nOk hw)
      rw [if_pos hw]
      by_cases hf : nthW (nWords s k) 0 = facetW
      · rw [if_pos hf]
        obtain ⟨r, g1, g2⟩ := c0 n (a1 n) (nRest s k) (nLine s k) 0 (by omega) (nRest_small hs) (by omega)
        refine seg _ r g1 fun ds => ?_
        unfold pb0_t
        exact ⟨hs, fun _ => ⟨fun _ => ⟨slotsS_len _ _, g2 ds⟩, fun h => by rw [beq_eq_false_iff_ne] at h; exact absurd hf h⟩, fun h => by rw [hw] at h; cases h⟩
      · rw [if_neg hf]
        by_cases he : eOk (nRest s k) (nLine s k) = true
        · rw [if_pos he]
          refine seg _ (.ret (.tuple [.agg [.nilS, .nilS], I64 0, I64 0]) (bx3 .nilS .nilS)) (.inr ⟨rfl, rfl, rfl, rfl⟩) fun ds => ?_
          unfold pb0_t
          exact ⟨hs, fun _ => ⟨fun h => absurd (beq_iff_eq.1 h) hf, fun _ => ⟨nRest_small hs, fun _ => rfl, fun h => by rw [he] at h; cases h⟩⟩, fun h => by rw [hw] at h; cases h⟩
        · rw [if_neg he]
          refine seg _ (.pan (prob (eLine (nRest s k) (nLine s k)) 5) (bx3 .nilS .nilS)) ⟨rfl, .inl rfl⟩ fun ds => ?_
          unfold pb0_t
          exact ⟨hs, fun _ => ⟨fun h => absurd (beq_iff_eq.1 h) hf, fun _ => ⟨nRest_small hs, fun h => absurd h he, fun _ => rfl⟩⟩, fun h => by rw [hw] at h; cases h⟩
    · rw [if_neg hw]
      refine seg _ (.pan (prob (nLine s k) (wErr s k)) (bx3 .nilS .nilS)) ⟨rfl, .inl rfl⟩ fun ds => ?_
      unfold pb0_t
      exact ⟨hs, fun h => absurd h hw, fun _ => rfl⟩

/-- What Parse's code makes of a text that is not too long. -/
def pP (s : List UInt8) : PR := if wOk s 0 [solidW] = true then pF (s.length + 1) (nRest s 0) (nLine s 0) [] [] else .err (nLine s 0) (wErr s 0)
def slP (s : List UInt8) : List SV := slotsS 52 [(0, .str s), (2, .ptr 0 0), (3, .ptr 1 0), (4, .ptr 2 0)]
theorem m0 (s : List UInt8) (hs : small s = true) : End (pP s) itemsAt3.tail (slP s) (bx3 .nilS .nilS) := by
  have hsl : s.length ≤ 100000 := by have := small_iff.1 hs; omega
  have seg : ∀ (res : PR) (r : Fin), good r res → (∀ ds, (pa1_t s).holds fun o => match o with
      | .fin r' => r' = r
      | .at items' size slots' boxes' => slots'.length = size ∧ RY ds r items' slots' boxes') → End res itemsAt3.tail (slP s) (bx3 .nilS .nilS) := fun res r g h => by
    refine ⟨r, g, fun ds => runsY_seg kP (n := 1000) (keep := keepS 52 [2, 3, 4, 5, 6, 25]) (p := pa1_p) (Nat.le_of_ble_eq_true rfl) ?_⟩
    erw [pa1 s]
    exact h ds
  unfold pP
  by_cases hw : wOk s 0 [solidW] = true
  · rw [if_pos hw]
    have := nRest_le s 0
    obtain ⟨r, g1, g2⟩ := a0 (s.length + 1) (nRest s 0) (nLine s 0) (by omega) (nRest_small hs) (by omega)
    refine seg _ r g1 fun ds => ?_
    unfold pa1_t
    exact ⟨hs, fun _ => ⟨slotsS_len _ _, g2 ds⟩, fun h => by rw [hw] at h; cases h⟩
  · rw [if_neg hw]
    refine seg _ (.pan (prob (nLine s 0) (wErr s 0)) (bx3 .nilS .nilS)) ⟨rfl, .inl rfl⟩ fun ds => ?_
    unfold pa1_t
    exact ⟨hs, fun h => absurd h hw, fun _ => rfl⟩
end Go.Proofs.YtlhkgeoahblffaaDoor
set_option linter.unusedSimpArgs false
set_option linter.unusedVariables false
set_option maxRecDepth 100000
namespace Go.Proofs.YtlhkgeoahblffaaDoor
open Go.Sx

/-! ### A nil slice is an empty list -/

def nz1 : SV → SV
  | .nilS => .list v3 []
  | v => v
def nzL : List SV → List SV
  | [] => []
  | x :: xs => nz1 x :: nzL xs
def nzA : SV → SV
  | .agg cs => .agg (nzL cs)
  | v => nz1 v
def nzM : List SV → List SV
  | [] => []
  | x :: xs => nzA x :: nzM xs
def nzT : SV → SV
  | .tuple cs => .tuple (nzM cs)
  | v => nzA v
section
variable {R : Nat → Prop} {ρ : Rho} {n : Nat} {w : World}
theorem nz1_rep : ∀ {x : SV} {v : Value}, Rep R ρ n w x v → Rep R ρ n w (nz1 x) v
  | .nilS, v, h => ⟨none, 0, by rw [show v = _ from h]; rfl, Nat.le_refl _, fun h => absurd h (Nat.lt_irrefl _)⟩
  | .undef, _, h | .top, _, h | .int _ _, _, h | .bool _, _, h | .str _, _, h | .list _ _, _, h | .row _, _, h | .arr _ _ _, _, h | .ptr _ _, _, h | .nilP, _, h | .eptr _ _ _ _, _, h | .rptr _ _ _ _, _, h | .agg _, _, h | .tuple _, _, h | .fn _ _ _, _, h | .raw _, _, h => h
theorem nzL_rep : ∀ {xs : List SV} {vs : List Value}, RepL R ρ n w xs vs → RepL R ρ n w (nzL xs) vs
  | [], _, h => h
  | x :: xs, _, h => by
    obtain ⟨u, us, rfl, h1, h2⟩ := h
    exact ⟨u, us, rfl, nz1_rep h1, nzL_rep h2⟩
theorem nzA_rep {x : SV} {v : Value} (h : Rep R ρ n w x v) : Rep R ρ n w (nzA x) v := by
  cases x <;> first | exact nz1_rep h | (obtain ⟨vs, h1, h2⟩ := h; exact ⟨vs, h1, nzL_rep h2⟩)
theorem nzM_rep : ∀ {xs : List SV} {vs : List Value}, RepL R ρ n w xs vs → RepL R ρ n w (nzM xs) vs
  | [], _, h => h
  | x :: xs, _, h => by
    obtain ⟨u, us, rfl, h1, h2⟩ := h
    exact ⟨u, us, rfl, nzA_rep h1, nzM_rep h2⟩
theorem nzT_rep {x : SV} {v : Value} (h : Rep R ρ n w x v) : Rep R ρ n w (nzT x) v := by
  cases x <;> first | exact nzA_rep h | (obtain ⟨vs, h1, h2⟩ := h; exact ⟨vs, h1, nzM_rep h2⟩)
end
theorem runsR_nz {P : Program} {fn : Func} {v : SV} {items : List Item} {slots : List SV} {boxes : List (Option Box)} (h : RunsR P fn v items slots boxes) : RunsR P fn (nzT v) items slots boxes := fun fr m hc w0 R0 ρ w a hs b cs => by
  obtain ⟨ρ', w', a', todo, u, q1, q2, q3, q4, q5, q6⟩ := h fr m hc w0 R0 ρ w a hs b cs
  exact ⟨ρ', w', a', todo, u, q1, q2, q3, q4, q5, nzT_rep q6⟩

/-! ### The deferred call -/

theorem k0 : Known Tryd.prog (Env.ofB Tryd.prog (sumOf []) (wrOf []) (pnOf []) (bxOf []) (rdOf []) (rdOf []) (rdOf []) (rdOf [])) := hB (l := []) [] [] [] [] trivial noneOk noneOk noneOk
def sg34 (v : SV) : List SV := slotsS 16 [(0, .ptr 0 0), (1, .ptr 1 0), (2, .ptr 2 0), (6, v)]
noncomputable abbrev it34s : List Item := Item.inRegion ops34 (List.range' 1 (ops34.size - 1)) :: it34.tail
abbrev RX34 (bs' : List (Option Box)) (v : SV) (bs : List (Option Box)) : Prop := RunsX Tryd.prog (fnOf Tryd.prog 34) [] 3 (.ret (.tuple []) bs') it34s (sg34 v) bs

theorem clos_ok {r : Fin} {us ts : List T3} (h : good r (.ok us ts)) : RX34 r.boxes r.hand r.boxes ∧ r.boxes.length = 3 ∧ ∃ b1 b2, r.boxes = bx3 b1 b2 ∧ ((b1 = .nilS ∧ b2 = .nilS ∧ us = [] ∧ ts = []) ∨ (b1 = .list v3 us ∧ b2 = .list v3 ts)) := by
  cases r with
  | pan p bs => exact h.elim
  | ret v bs =>
    rcases h with ⟨_, rfl⟩ | ⟨h1, h2, _, rfl⟩
    · refine ⟨?_, rfl, _, _, rfl, .inr ⟨rfl, rfl⟩⟩
      refine runsX_seg k0 (n := 1000) (keep := keepS 16 []) (p := qa2_p) (Nat.le_of_ble_eq_true rfl) ?_
      erw [qa2 us ts]
      exact rfl
    · refine ⟨?_, rfl, _, _, rfl, .inl ⟨rfl, rfl, h1, h2⟩⟩
      refine runsX_seg k0 (n := 1000) (keep := keepS 16 []) (p := qa1_p) (Nat.le_of_ble_eq_true rfl) ?_
      erw [qa1]
      exact rfl
theorem clos_err {r : Fin} {k e : Int} (h : good r (.err k e)) : RX34 [some (.cells [.nilS, .nilS]), some (.cells [I64 k]), some (.cells [I64 e])] r.hand r.boxes ∧ r.boxes.length = 3 := by
  cases r with
  | ret v bs => exact h.elim
  | pan p bs =>
    obtain ⟨rfl, rfl | ⟨us, rfl⟩ | ⟨us, ts, rfl⟩⟩ := h
    · refine ⟨?_, rfl⟩
      refine runsX_seg k0 (n := 1000) (keep := keepS 16 []) (p := qb1_p) (Nat.le_of_ble_eq_true rfl) ?_
      erw [qb1 k e]
      exact rfl
    · refine ⟨?_, rfl⟩
      refine runsX_seg k0 (n := 1000) (keep := keepS 16 []) (p := qb2_p) (Nat.le_of_ble_eq_true rfl) ?_
      erw [qb2 k e us]
      exact rfl
    · refine ⟨?_, rfl⟩
      refine runsX_seg k0 (n := 1000) (keep := keepS 16 []) (p := qb3_p) (Nat.le_of_ble_eq_true rfl) ?_
      erw [qb3 k e us ts]
      exact rfl

theorem reach34 (fr : Fr) (m : Mem) : Go.Sx.Reach Tryd.prog [.code (bodyOf Tryd.prog 34)] fr m (.stop (.code (.region 0 ops34 false) :: it34.tail) fr m) := by
  have hK : Known Tryd.prog (Env.ofB Tryd.prog (sumOf []) (wrOf []) (pnOf []) (bxOf []) (rdOf []) (rdOf []) (rdOf []) (rdOf [0])) := hB (l := []) [] [] [] [0] trivial noneOk noneOk noneOk
  have e : (exec (Env.ofB Tryd.prog (sumOf []) (wrOf []) (pnOf []) (bxOf []) (rdOf []) (rdOf []) (rdOf []) (rdOf [0])) 20 [.code (bodyOf Tryd.prog 34)] .all fr m (fun o => Tree.leaf o)) = .leaf (.stop (.code (.region 0 ops34 false) :: it34.tail) fr m) := by kernel_rfl
  obtain ⟨out, h1, h2⟩ := exec_ok hK.e hK.s hK.mix 20 [.code (bodyOf Tryd.prog 34)] .all fr m (fun o => Tree.leaf o) (fun o => o = .stop (.code (.region 0 ops34 false) :: it34.tail) fr m) (by rw [e]; rfl)
  have h1 : out = _ := h1
  subst h1
  exact h2

noncomputable def o31 : Oper := ops3.toList.getD 0 default
noncomputable def o32 : Oper := ops3.toList.getD 1 default
noncomputable def o340 : Oper := ops34.toList.getD 0 default
theorem ops3_eq : ops3.toList = [o31, o32] := by kernel_rfl
theorem it3_eq : itemsAt3 = .code (.region 3 ops3 false) :: itemsAt3.tail := by kernel_rfl
theorem o340_op : o340.op = .call { callee := .builtin .recover, args := #[], argTypes := #[] } := by kernel_rfl
theorem rec340 (ev : Operand → Value) (w : World) : (Go.execOp ev o340).run Tryd.prog w = .ok .recover w := by
  have h := o340_op
  generalize o340 = o at h
  obtain ⟨dst, op, ty, pos, after, guard⟩ := o
  dsimp only at h
  subst h
  simp [Go.execOp, resolve, invoke, builtin]

/-! ### The contract -/

def meshV : PR → SV
  | .ok us ts => .tuple [.agg [.list v3 us, .list v3 ts], I64 0, I64 0]
  | .err k e => .tuple [.agg [.list v3 [], .list v3 []], I64 k, I64 e]
theorem meshV_data (r : PR) : (meshV r).data = true := by cases r <;> rfl
def slR : List SV := slotsS 52 [(2, .ptr 0 0), (3, .ptr 1 0), (4, .ptr 2 0)]
theorem res_nil (k e : Int) : resX (Env.ofB Tryd.prog (sumOf []) (wrOf []) (pnOf []) (bxOf []) (rdOf []) (rdOf []) (rdOf []) (rdOf [])) (fnOf Tryd.prog 17) slR [some (.cells [.nilS, .nilS]), some (.cells [I64 k]), some (.cells [I64 e])] = .leaf (.tuple [.agg [.nilS, .nilS], I64 k, I64 e]) := by kernel_rfl
theorem res_list (us ts : List T3) : resX (Env.ofB Tryd.prog (sumOf []) (wrOf []) (pnOf []) (bxOf []) (rdOf []) (rdOf []) (rdOf []) (rdOf [])) (fnOf Tryd.prog 17) slR [some (.cells [.list v3 us, .list v3 ts]), some (.cells [I64 0]), some (.cells [I64 0])] = .leaf (.tuple [.agg [.list v3 us, .list v3 ts], I64 0, I64 0]) := by kernel_rfl

def slotsB (ps : List (Nat × Nat)) : Nat → List SV → Bool
  | _, [] => true
  | t, x :: xs => (match x with
    | .top => true
    | .ptr i o => Nat.beq o 0 && ps.any fun y => Nat.beq y.1 t && Nat.beq y.2 i
    | _ => false) && slotsB ps (t + 1) xs
theorem slotsB_spec {ps : List (Nat × Nat)} : ∀ {l : List SV} {t0 : Nat}, slotsB ps t0 l = true → ∀ t, t < l.length → l.getD t .undef = .top ∨ ∃ x ∈ ps, x.1 = t0 + t ∧ l.getD t .undef = .ptr x.2 0
  | [], t0, _, t, ht => by simp at ht
  | x :: xs, t0, h, t, ht => by
    unfold slotsB at h
    rw [Bool.and_eq_true] at h
    cases t with
    | zero =>
      have h1 := h.1
      split at h1
      · exact .inl rfl
      · rename_i i o
        rw [Bool.and_eq_true, List.any_eq_true] at h1
        obtain ⟨h2, y, hy, h3⟩ := h1
        rw [Bool.and_eq_true] at h3
        refine .inr ⟨y, hy, Nat.eq_of_beq_eq_true h3.1, ?_⟩
        have e1 := Nat.eq_of_beq_eq_true h2
        have e2 := Nat.eq_of_beq_eq_true h3.2
        subst e1
        rw [e2]; rfl
      · cases h1
    | succ t =>
      rcases slotsB_spec h.2 t (by simpa using ht) with g | ⟨y, hy, g1, g2⟩
      · exact .inl (by simpa using g)
      · exact .inr ⟨y, hy, by omega, by simpa using g2⟩

theorem parse_at (s : List UInt8) {r : Fin} (main : ∀ ds, RY ds r itemsAt3.tail (slP s) (bx3 .nilS .nilS)) {b1 b2 k e : SV} (clos : RX34 [some (.cells [b1, b2]), some (.cells [k]), some (.cells [e])] r.hand r.boxes) (hl : r.boxes.length = 3) (hd : (SV.tuple [.agg [b1, b2], k, e]).data = true)
    (hr : resX (Env.ofB Tryd.prog (sumOf []) (wrOf []) (pnOf []) (bxOf []) (rdOf []) (rdOf []) (rdOf []) (rdOf [])) (fnOf Tryd.prog 17) slR [some (.cells [b1, b2]), some (.cells [k]), some (.cells [e])] = .leaf (.tuple [.agg [b1, b2], k, e])) : RunsR Tryd.prog (fnOf Tryd.prog 17) (.tuple [.agg [b1, b2], k, e]) itemsAt3 (slP s) (bx3 .nilS .nilS) := by
  rw [it3_eq]
  refine deferred_runsR k0 (o1 := o31) (o2 := o32) (g := 34) (cap := #[.tmp 2, .tmp 3, .tmp 4]) (d := 11) (c := { callee := .value (.tmp 11), args := #[], argTypes := #[] }) ops3_eq (by kernel_rfl) (by kernel_rfl) (by kernel_rfl) (by kernel_rfl) rfl rfl (by kernel_rfl) (by kernel_rfl)
    (ps := psP) (by rfl) (fun x hx => ?_) (Nat.le_of_ble_eq_true rfl) rfl main hl (fg := fnOf Tryd.prog 34) (cg := bodyOf Tryd.prog 34) (by kernel_rfl) (by kernel_rfl) (by kernel_rfl) (fun fr m => reach34 fr m) (o0 := o340) (d0 := 6) (by kernel_rfl) (by kernel_rfl) (by kernel_rfl) rec340 (Nat.le_of_ble_eq_true (by kernel_rfl) : 1 ≤ ops34.size)
    (sg := sg34 r.hand) (by kernel_rfl) (Nat.le_of_ble_eq_true (by kernel_rfl)) (Nat.le_of_ble_eq_true (by kernel_rfl)) rfl (fun t ht htd => ?_) clos rfl hd (sl := slR) rfl (fun t ht => ?_) (by rw [hr]; rfl)
  · simp only [psP, List.mem_cons, List.not_mem_nil, or_false] at hx
    rcases hx with rfl | rfl | rfl
    · exact ⟨rfl, Nat.le_of_ble_eq_true rfl⟩
    · exact ⟨rfl, Nat.le_of_ble_eq_true rfl⟩
    · exact ⟨rfl, Nat.le_of_ble_eq_true rfl⟩
  · have ht : t < 16 := by
      have e : (fnOf Tryd.prog 34).ntmps = 16 := by kernel_rfl
      rw [e] at ht; exact ht
    match t, ht, htd with
    | 0, _, _ => exact .inr ⟨(2, 0), rfl, rfl⟩
    | 1, _, _ => exact .inr ⟨(3, 1), rfl, rfl⟩
    | 2, _, _ => exact .inr ⟨(4, 2), rfl, rfl⟩
    | 3, _, _ | 4, _, _ | 5, _, _ | 7, _, _ | 8, _, _ | 9, _, _ | 10, _, _ | 11, _, _ | 12, _, _ | 13, _, _ | 14, _, _ | 15, _, _ => exact .inl rfl
    | 6, _, h => exact absurd rfl h
    | t + 16, h, _ => omega
  · have hb : slotsB psP 0 slR = true := by kernel_rfl
    rcases slotsB_spec hb t ht with h | ⟨x, h1, h2, h3⟩
    · exact .inl h
    · exact .inr ⟨x, h1, by omega, h3⟩

def parseT (s : List UInt8) : SV := if (s.length : Int) > 65536 then .tuple [.agg [.list v3 [], .list v3 []], I64 0, I64 2] else meshV (pP s)
theorem s_parseT (s : List UInt8) : SCall Tryd.prog 17 [.str s] (parseT s) := by
  have hd : (parseT s).data = true := by
    unfold parseT
    split
    · rfl
    · exact meshV_data _
  have hK : Known Tryd.prog (Env.ofB Tryd.prog (sumOf []) (wrOf []) (pnOf []) (bxOf []) (rdOf []) (rdOf []) (rdOf []) (rdOf [3])) := hB (l := []) [] [] [] [3] trivial noneOk noneOk noneOk
  refine scallR_loops rfl hd (by kernel_rfl) (runsR_seg hK (n := 1000) (hint := v3) (keep := keepS 52 [0, 2, 3, 4]) (p := pa0_p) (boxes := []) hd ?_)
  have e := pa0 s
  unfold startS codeS at e
  erw [e]
  unfold pa0_t
  refine ⟨fun h => ?_, fun h => ⟨slotsS_len _ _, ?_⟩⟩
  · unfold parseT
    rw [if_pos (of_decide_eq_true h)]
    rfl
  · have h := of_decide_eq_false h
    have hs : small s = true := small_iff.2 (by omega)
    have ep : parseT s = meshV (pP s) := by unfold parseT; rw [if_neg h]
    rw [ep]
    obtain ⟨r, g, main⟩ := m0 s hs
    cases hp : pP s with
    | ok us ts =>
      rw [hp] at g
      obtain ⟨c1, c2, b1, b2, hb, hc⟩ := clos_ok g
      rw [hb] at c1
      rcases hc with ⟨rfl, rfl, rfl, rfl⟩ | ⟨rfl, rfl⟩
      · exact runsR_nz (parse_at s main (by rw [hb]; exact c1) c2 rfl (res_nil 0 0))
      · exact parse_at s main (by rw [hb]; exact c1) c2 rfl (res_list us ts)
    | err k e =>
      rw [hp] at g
      obtain ⟨c1, c2⟩ := clos_err g
      exact runsR_nz (parse_at s main c1 c2 rfl (res_nil k e))
def fParse : Fact := ⟨17, fun args => match args with
  | [.str s] => some (.leaf (parseT s))
  | _ => none⟩
theorem o_parse : fParse.ok Tryd.prog := fun args t ht => by
  simp only [fParse] at ht
  split at ht
  · injection ht with ht; subst ht; exact s_parseT _
  · cases ht
end Go.Proofs.YtlhkgeoahblffaaDoor
set_option linter.unusedSimpArgs false
set_option linter.unusedVariables false
set_option maxRecDepth 100000
namespace Go.Proofs.YtlhkgeoahblffaaDoor
open Go.Sx
def li0_p : Plan := .all
noncomputable def li0_t (s : List UInt8) : Tree Stop :=
   .leaf (Stop.at (loopOf Tryd.prog 38 0) 36 (slotsS 36 [(0, SV.str s), (3, SV.nilS), (4, I64 0), (5, I64 0)]) [])
theorem li0 (s : List UInt8) : segR (Env.of Tryd.prog (sumOf [])) 1000 (fnOf Tryd.prog 38) .str (keepS 36 [0,3,4,5]) (codeS Tryd.prog 38) li0_p (startS Tryd.prog 38 [.str s]) [] = li0_t s := by kernel_rfl
def li1_p : Plan := .fork (.fork (.all) (.all)) (.fork (.all) (.all))
noncomputable def li1_t (s : List UInt8) (f i : Int) : Tree Stop :=
   .node (decide (i < (↑s.length : Int)))
 (.req (decide (0 ≤ i) && decide (i < (↑s.length : Int))) (.node ((bt s i) == 10)
   (.req (decide (0 ≤ i) && decide (i ≤ (↑s.length : Int)) && decide (0 ≤ f) && decide (f ≤ i)) (.req (decide ([List.drop f.toNat (List.take i.toNat s)].length * 16 ≤ 140737488355328)) (.leaf (Stop.at (loopOf Tryd.prog 38 0) 36 (slotsS 36 [(0, SV.str s), (3, SV.row 0), (4, I64 (IntKind.i64.wrap (i + 1))), (5, I64 (IntKind.i64.wrap (i + 1)))]) [some (Box.rows Ty.str [List.drop f.toNat (List.take i.toNat s)])]))))
   (.leaf (Stop.at (loopOf Tryd.prog 38 0) 36 (slotsS 36 [(0, SV.str s), (3, SV.nilS), (4, I64 f), (5, I64 (IntKind.i64.wrap (i + 1)))]) []))))
 (.node (decide (f < (↑s.length : Int)))
  (.req (decide (0 ≤ f) && decide (f ≤ (↑s.length : Int))) (.req (decide ([List.drop f.toNat s].length * 16 ≤ 140737488355328)) (.leaf (Stop.done (SV.list Ty.str [List.drop f.toNat s])))))
  (.leaf (Stop.done (SV.list Ty.str []))))
theorem li1 (s : List UInt8) (f i : Int) : segR (Env.of Tryd.prog (sumOf [])) 1000 (fnOf Tryd.prog 38) .str (keepS 36 [0,3,4,5]) (loopOf Tryd.prog 38 0) li1_p (slotsS 36 [(0, .str s), (3, .nilS), (4, I64 f), (5, I64 i)]) [] = li1_t s f i := by kernel_rfl
def li2_p : Plan := .fork (.fork (.all) (.all)) (.fork (.all) (.all))
noncomputable def li2_t (s : List UInt8) (f i : Int) (l : List (List UInt8)) : Tree Stop :=
   .node (decide (i < (↑s.length : Int)))
 (.req (decide (0 ≤ i) && decide (i < (↑s.length : Int))) (.node ((bt s i) == 10)
   (.req (decide (0 ≤ i) && decide (i ≤ (↑s.length : Int)) && decide (0 ≤ f) && decide (f ≤ i)) (.req (decide ((l.length + [List.drop f.toNat (List.take i.toNat s)].length) * 16 ≤ 140737488355328)) (.leaf (Stop.at (loopOf Tryd.prog 38 0) 36 (slotsS 36 [(0, SV.str s), (3, SV.row 0), (4, I64 (IntKind.i64.wrap (i + 1))), (5, I64 (IntKind.i64.wrap (i + 1)))]) [some (Box.rows Ty.str (l ++ [List.drop f.toNat (List.take i.toNat s)]))]))))
   (.leaf (Stop.at (loopOf Tryd.prog 38 0) 36 (slotsS 36 [(0, SV.str s), (3, SV.row 0), (4, I64 f), (5, I64 (IntKind.i64.wrap (i + 1)))]) [some (Box.rows Ty.str l)]))))
 (.node (decide (f < (↑s.length : Int)))
  (.req (decide (0 ≤ f) && decide (f ≤ (↑s.length : Int))) (.req (decide ((l.length + [List.drop f.toNat s].length) * 16 ≤ 140737488355328)) (.leaf (Stop.done (SV.list Ty.str (l ++ [List.drop f.toNat s]))))))
  (.leaf (Stop.done (SV.list Ty.str l))))
theorem li2 (s : List UInt8) (f i : Int) (l : List (List UInt8)) : segR (Env.of Tryd.prog (sumOf [])) 1000 (fnOf Tryd.prog 38) .str (keepS 36 [0,3,4,5]) (loopOf Tryd.prog 38 0) li2_p (slotsS 36 [(0, .str s), (3, .row 0), (4, I64 f), (5, I64 i)]) [some (.rows .str l)] = li2_t s f i l := by kernel_rfl
def wo0_p : Plan := .all
noncomputable def wo0_t (s : List UInt8) : Tree Stop :=
   .leaf (Stop.at (loopOf Tryd.prog 39 0) 41 (slotsS 41 [(0, SV.str s), (3, SV.nilS), (4, I64 0), (5, I64 0)]) [])
theorem wo0 (s : List UInt8) : segR (Env.of Tryd.prog (sumOf [])) 1000 (fnOf Tryd.prog 39) .str (keepS 41 [0,3,4,5]) (codeS Tryd.prog 39) wo0_p (startS Tryd.prog 39 [.str s]) [] = wo0_t s := by kernel_rfl
def wo1_p : Plan := .fork (.fork (.lit (.lit (.lit (.lit (.lit (.lit (.lit (.lit (.lit (.lit (.fork (.all) (.all)))))))))))) (.lit (.lit (.lit (.lit (.fork (.lit (.lit (.lit (.lit (.lit (.fork (.all) (.all))))))) (.lit (.lit (.lit (.lit (.fork (.fork (.all) (.all)) (.all)))))))))))) (.all)
noncomputable def wo1_t (s : List UInt8) (f i : Int) : Tree Stop :=
   .node (decide (i ≤ (↑s.length : Int)))
 (.node (i == (↑s.length : Int))
  (.node (decide (i > f))
   (.req (decide (0 ≤ i) && decide (i ≤ (↑s.length : Int)) && decide (0 ≤ f) && decide (f ≤ i)) (.req (decide ([List.drop f.toNat (List.take i.toNat s)].length * 16 ≤ 140737488355328)) (.leaf (Stop.at (loopOf Tryd.prog 39 0) 41 (slotsS 41 [(0, SV.str s), (3, SV.row 0), (4, I64 (IntKind.i64.wrap (i + 1))), (5, I64 (IntKind.i64.wrap (i + 1)))]) [some (Box.rows Ty.str [List.drop f.toNat (List.take i.toNat s)])]))))
   (.leaf (Stop.at (loopOf Tryd.prog 39 0) 41 (slotsS 41 [(0, SV.str s), (3, SV.nilS), (4, I64 (IntKind.i64.wrap (i + 1))), (5, I64 (IntKind.i64.wrap (i + 1)))]) [])))
  (.req (decide (0 ≤ i) && decide (i < (↑s.length : Int))) (.node ((bt s i) == 32)
    (.node (decide (i > f))
     (.req (decide (0 ≤ i) && decide (i ≤ (↑s.length : Int)) && decide (0 ≤ f) && decide (f ≤ i)) (.req (decide ([List.drop f.toNat (List.take i.toNat s)].length * 16 ≤ 140737488355328)) (.leaf (Stop.at (loopOf Tryd.prog 39 0) 41 (slotsS 41 [(0, SV.str s), (3, SV.row 0), (4, I64 (IntKind.i64.wrap (i + 1))), (5, I64 (IntKind.i64.wrap (i + 1)))]) [some (Box.rows Ty.str [List.drop f.toNat (List.take i.toNat s)])]))))
     (.leaf (Stop.at (loopOf Tryd.prog 39 0) 41 (slotsS 41 [(0, SV.str s), (3, SV.nilS), (4, I64 (IntKind.i64.wrap (i + 1))), (5, I64 (IntKind.i64.wrap (i + 1)))]) [])))
    (.req (decide (0 ≤ i) && decide (i < (↑s.length : Int))) (.node ((bt s i) == 9)
      (.node (decide (i > f))
       (.req (decide (0 ≤ i) && decide (i ≤ (↑s.length : Int)) && decide (0 ≤ f) && decide (f ≤ i)) (.req (decide ([List.drop f.toNat (List.take i.toNat s)].length * 16 ≤ 140737488355328)) (.leaf (Stop.at (loopOf Tryd.prog 39 0) 41 (slotsS 41 [(0, SV.str s), (3, SV.row 0), (4, I64 (IntKind.i64.wrap (i + 1))), (5, I64 (IntKind.i64.wrap (i + 1)))]) [some (Box.rows Ty.str [List.drop f.toNat (List.take i.toNat s)])]))))
       (.leaf (Stop.at (loopOf Tryd.prog 39 0) 41 (slotsS 41 [(0, SV.str s), (3, SV.nilS), (4, I64 (IntKind.i64.wrap (i + 1))), (5, I64 (IntKind.i64.wrap (i + 1)))]) [])))
      (.leaf (Stop.at (loopOf Tryd.prog 39 0) 41 (slotsS 41 [(0, SV.str s), (3, SV.nilS), (4, I64 f), (5, I64 (IntKind.i64.wrap (i + 1)))]) [])))))))
 (.leaf (Stop.done (SV.list Ty.str [])))
theorem wo1 (s : List UInt8) (f i : Int) : segR (Env.of Tryd.prog (sumOf [])) 1000 (fnOf Tryd.prog 39) .str (keepS 41 [0,3,4,5]) (loopOf Tryd.prog 39 0) wo1_p (slotsS 41 [(0, .str s), (3, .nilS), (4, I64 f), (5, I64 i)]) [] = wo1_t s f i := by kernel_rfl
def wo2_p : Plan := .fork (.fork (.lit (.lit (.lit (.lit (.lit (.lit (.lit (.lit (.lit (.lit (.fork (.all) (.all)))))))))))) (.lit (.lit (.lit (.lit (.fork (.lit (.lit (.lit (.lit (.lit (.fork (.all) (.all))))))) (.lit (.lit (.lit (.lit (.fork (.fork (.all) (.all)) (.all)))))))))))) (.all)
noncomputable def wo2_t (s : List UInt8) (f i : Int) (l : List (List UInt8)) : Tree Stop :=
   .node (decide (i ≤ (↑s.length : Int)))
 (.node (i == (↑s.length : Int))
  (.node (decide (i > f))
   (.req (decide (0 ≤ i) && decide (i ≤ (↑s.length : Int)) && decide (0 ≤ f) && decide (f ≤ i)) (.req (decide ((l.length + [List.drop f.toNat (List.take i.toNat s)].length) * 16 ≤ 140737488355328)) (.leaf (Stop.at (loopOf Tryd.prog 39 0) 41 (slotsS 41 [(0, SV.str s), (3, SV.row 0), (4, I64 (IntKind.i64.wrap (i + 1))), (5, I64 (IntKind.i64.wrap (i + 1)))]) [some (Box.rows Ty.str (l ++ [List.drop f.toNat (List.take i.toNat s)]))]))))
   (.leaf (Stop.at (loopOf Tryd.prog 39 0) 41 (slotsS 41 [(0, SV.str s), (3, SV.row 0), (4, I64 (IntKind.i64.wrap (i + 1))), (5, I64 (IntKind.i64.wrap (i + 1)))]) [some (Box.rows Ty.str l)])))
  (.req (decide (0 ≤ i) && decide (i < (↑s.length : Int))) (.node ((bt s i) == 32)
    (.node (decide (i > f))
     (.req (decide (0 ≤ i) && decide (i ≤ (↑s.length : Int)) && decide (0 ≤ f) && decide (f ≤ i)) (.req (decide ((l.length + [List.drop f.toNat (List.take i.toNat s)].length) * 16 ≤ 140737488355328)) (.leaf (Stop.at (loopOf Tryd.prog 39 0) 41 (slotsS 41 [(0, SV.str s), (3, SV.row 0), (4, I64 (IntKind.i64.wrap (i + 1))), (5, I64 (IntKind.i64.wrap (i + 1)))]) [some (Box.rows Ty.str (l ++ [List.drop f.toNat (List.take i.toNat s)]))]))))
     (.leaf (Stop.at (loopOf Tryd.prog 39 0) 41 (slotsS 41 [(0, SV.str s), (3, SV.row 0), (4, I64 (IntKind.i64.wrap (i + 1))), (5, I64 (IntKind.i64.wrap (i + 1)))]) [some (Box.rows Ty.str l)])))
    (.req (decide (0 ≤ i) && decide (i < (↑s.length : Int))) (.node ((bt s i) == 9)
      (.node (decide (i > f))
       (.req (decide (0 ≤ i) && decide (i ≤ (↑s.length : Int)) && decide (0 ≤ f) && decide (f ≤ i)) (.req (decide ((l.length + [List.drop f.toNat (List.take i.toNat s)].length) * 16 ≤ 140737488355328)) (.leaf (Stop.at (loopOf Tryd.prog 39 0) 41 (slotsS 41 [(0, SV.str s), (3, SV.row 0), (4, I64 (IntKind.i64.wrap (i + 1))), (5, I64 (IntKind.i64.wrap (i + 1)))]) [some (Box.rows Ty.str (l ++ [List.drop f.toNat (List.take i.toNat s)]))]))))
       (.leaf (Stop.at (loopOf Tryd.prog 39 0) 41 (slotsS 41 [(0, SV.str s), (3, SV.row 0), (4, I64 (IntKind.i64.wrap (i + 1))), (5, I64 (IntKind.i64.wrap (i + 1)))]) [some (Box.rows Ty.str l)])))
      (.leaf (Stop.at (loopOf Tryd.prog 39 0) 41 (slotsS 41 [(0, SV.str s), (3, SV.row 0), (4, I64 f), (5, I64 (IntKind.i64.wrap (i + 1)))]) [some (Box.rows Ty.str l)])))))))
 (.leaf (Stop.done (SV.list Ty.str l)))
theorem wo2 (s : List UInt8) (f i : Int) (l : List (List UInt8)) : segR (Env.of Tryd.prog (sumOf [])) 1000 (fnOf Tryd.prog 39) .str (keepS 41 [0,3,4,5]) (loopOf Tryd.prog 39 0) wo2_p (slotsS 41 [(0, .str s), (3, .row 0), (4, I64 f), (5, I64 i)]) [some (.rows .str l)] = wo2_t s f i l := by kernel_rfl
def cr0_p : Plan := .fork (.lit (.lit (.lit (.lit (.lit (.all)))))) (.lit (.lit (.lit (.lit (.fork (.all) (.all))))))
noncomputable def cr0_t (v : List (List UInt8)) : Tree Stop :=
   .node ((v.length : Int) != 4)
 (.leaf (Stop.done (SV.tuple [SV.agg [I64 0, I64 0, I64 0], I64 5])))
 (.req (decide (0 < (v.length : Int))) (.node (!nthW v 0 == [118, 101, 114, 116, 101, 120])
   (.leaf (Stop.done (SV.tuple [SV.agg [I64 0, I64 0, I64 0], I64 5])))
   (.leaf (Stop.at (loopOf Tryd.prog 58 0) 61 (slotsS 61 [(0, SV.list Ty.str v), (2, SV.ptr 0 0), (4, SV.ptr 1 0), (5, SV.bool false), (6, I64 0)]) [some (Box.cells [I64 0, I64 0, I64 0]), some (Box.cells [I64 0, I64 0, I64 0])]))))
theorem cr0 (v : List (List UInt8)) : segR (Env.of Tryd.prog (sumOf [fRP])) 1000 (fnOf Tryd.prog 58) .unit (keepS 61 [0,2,4,5,6]) (codeS Tryd.prog 58) cr0_p (startS Tryd.prog 58 [.list .str v]) [] = cr0_t v := by kernel_rfl
def cr1_p : Plan := .lit (.fork (.all) (.fork (.lit (.lit (.lit (.lit (.lit (.lit (.lit (.lit (.all))))))))) (.lit (.lit (.fork (.lit (.lit (.lit (.lit (.lit (.all)))))) (.lit (.lit (.fork (.lit (.lit (.all))) (.lit (.lit (.all)))))))))))
noncomputable def cr1_t (v : List (List UInt8)) (o : Bool) : Tree Stop :=
   .req (decide (1 < (v.length : Int))) (.req (small (nthW v 1)) (.node ((parseV (nthW v 1)).snd == 5)
   (.leaf (Stop.done (SV.tuple [SV.agg [I64 0, I64 0, I64 0], I64 (parseV (nthW v 1)).snd])))
   (.node (o)
    (.req (true) (.leaf (Stop.at (loopOf Tryd.prog 58 0) 61 (slotsS 61 [(0, SV.list Ty.str v), (2, SV.ptr 0 0), (4, SV.ptr 1 0), (5, SV.bool true), (6, I64 1)]) [some (Box.cells [I64 0, I64 0, I64 0]), some (Box.cells [I64 (parseV (nthW v 1)).fst, I64 0, I64 0])])))
    (.node ((parseV (nthW v 1)).snd != 0)
     (.req (true) (.leaf (Stop.at (loopOf Tryd.prog 58 0) 61 (slotsS 61 [(0, SV.list Ty.str v), (2, SV.ptr 0 0), (4, SV.ptr 1 0), (5, SV.bool true), (6, I64 1)]) [some (Box.cells [I64 0, I64 0, I64 0]), some (Box.cells [I64 (parseV (nthW v 1)).fst, I64 0, I64 0])])))
     (.node (decide ((parseV (nthW v 1)).fst < -65536))
      (.req (true) (.leaf (Stop.at (loopOf Tryd.prog 58 0) 61 (slotsS 61 [(0, SV.list Ty.str v), (2, SV.ptr 0 0), (4, SV.ptr 1 0), (5, SV.bool true), (6, I64 1)]) [some (Box.cells [I64 0, I64 0, I64 0]), some (Box.cells [I64 (parseV (nthW v 1)).fst, I64 0, I64 0])])))
      (.req (true) (.leaf (Stop.at (loopOf Tryd.prog 58 0) 61 (slotsS 61 [(0, SV.list Ty.str v), (2, SV.ptr 0 0), (4, SV.ptr 1 0), (5, SV.bool (decide ((parseV (nthW v 1)).fst > 65536))), (6, I64 1)]) [some (Box.cells [I64 0, I64 0, I64 0]), some (Box.cells [I64 (parseV (nthW v 1)).fst, I64 0, I64 0])]))))))))
theorem cr1 (v : List (List UInt8)) (o : Bool) : segR (Env.of Tryd.prog (sumOf [fRP])) 1000 (fnOf Tryd.prog 58) .unit (keepS 61 [0,2,4,5,6]) (loopOf Tryd.prog 58 0) cr1_p (slotsS 61 [(0, .list .str v), (2, .ptr 0 0), (4, .ptr 1 0), (5, .bool o), (6, I64 0)]) [some (.cells [I64 0, I64 0, I64 0]), some (.cells [I64 0, I64 0, I64 0])] = cr1_t v o := by kernel_rfl
def cr2_p : Plan := .lit (.fork (.all) (.fork (.lit (.lit (.lit (.lit (.lit (.lit (.lit (.lit (.all))))))))) (.lit (.lit (.fork (.lit (.lit (.lit (.lit (.lit (.all)))))) (.lit (.lit (.fork (.lit (.lit (.all))) (.lit (.lit (.all)))))))))))
noncomputable def cr2_t (v : List (List UInt8)) (o : Bool) (x : Int) : Tree Stop :=
   .req (decide (2 < (v.length : Int))) (.req (small (nthW v 2)) (.node ((parseV (nthW v 2)).snd == 5)
   (.leaf (Stop.done (SV.tuple [SV.agg [I64 0, I64 0, I64 0], I64 (parseV (nthW v 2)).snd])))
   (.node (o)
    (.req (true) (.leaf (Stop.at (loopOf Tryd.prog 58 0) 61 (slotsS 61 [(0, SV.list Ty.str v), (2, SV.ptr 0 0), (4, SV.ptr 1 0), (5, SV.bool true), (6, I64 2)]) [some (Box.cells [I64 0, I64 0, I64 0]), some (Box.cells [I64 x, I64 (parseV (nthW v 2)).fst, I64 0])])))
    (.node ((parseV (nthW v 2)).snd != 0)
     (.req (true) (.leaf (Stop.at (loopOf Tryd.prog 58 0) 61 (slotsS 61 [(0, SV.list Ty.str v), (2, SV.ptr 0 0), (4, SV.ptr 1 0), (5, SV.bool true), (6, I64 2)]) [some (Box.cells [I64 0, I64 0, I64 0]), some (Box.cells [I64 x, I64 (parseV (nthW v 2)).fst, I64 0])])))
     (.node (decide ((parseV (nthW v 2)).fst < -65536))
      (.req (true) (.leaf (Stop.at (loopOf Tryd.prog 58 0) 61 (slotsS 61 [(0, SV.list Ty.str v), (2, SV.ptr 0 0), (4, SV.ptr 1 0), (5, SV.bool true), (6, I64 2)]) [some (Box.cells [I64 0, I64 0, I64 0]), some (Box.cells [I64 x, I64 (parseV (nthW v 2)).fst, I64 0])])))
      (.req (true) (.leaf (Stop.at (loopOf Tryd.prog 58 0) 61 (slotsS 61 [(0, SV.list Ty.str v), (2, SV.ptr 0 0), (4, SV.ptr 1 0), (5, SV.bool (decide ((parseV (nthW v 2)).fst > 65536))), (6, I64 2)]) [some (Box.cells [I64 0, I64 0, I64 0]), some (Box.cells [I64 x, I64 (parseV (nthW v 2)).fst, I64 0])]))))))))
theorem cr2 (v : List (List UInt8)) (o : Bool) (x : Int) : segR (Env.of Tryd.prog (sumOf [fRP])) 1000 (fnOf Tryd.prog 58) .unit (keepS 61 [0,2,4,5,6]) (loopOf Tryd.prog 58 0) cr2_p (slotsS 61 [(0, .list .str v), (2, .ptr 0 0), (4, .ptr 1 0), (5, .bool o), (6, I64 1)]) [some (.cells [I64 0, I64 0, I64 0]), some (.cells [I64 x, I64 0, I64 0])] = cr2_t v o x := by kernel_rfl
def cr3_p : Plan := .lit (.fork (.all) (.fork (.lit (.lit (.lit (.lit (.lit (.lit (.lit (.lit (.all))))))))) (.lit (.lit (.fork (.lit (.lit (.lit (.lit (.lit (.all)))))) (.lit (.lit (.fork (.lit (.lit (.all))) (.lit (.lit (.all)))))))))))
noncomputable def cr3_t (v : List (List UInt8)) (o : Bool) (x y : Int) : Tree Stop :=
   .req (decide (3 < (v.length : Int))) (.req (small (nthW v 3)) (.node ((parseV (nthW v 3)).snd == 5)
   (.leaf (Stop.done (SV.tuple [SV.agg [I64 0, I64 0, I64 0], I64 (parseV (nthW v 3)).snd])))
   (.node (o)
    (.req (true) (.leaf (Stop.at (loopOf Tryd.prog 58 0) 61 (slotsS 61 [(0, SV.list Ty.str v), (2, SV.ptr 0 0), (4, SV.ptr 1 0), (5, SV.bool true), (6, I64 3)]) [some (Box.cells [I64 0, I64 0, I64 0]), some (Box.cells [I64 x, I64 y, I64 (parseV (nthW v 3)).fst])])))
    (.node ((parseV (nthW v 3)).snd != 0)
     (.req (true) (.leaf (Stop.at (loopOf Tryd.prog 58 0) 61 (slotsS 61 [(0, SV.list Ty.str v), (2, SV.ptr 0 0), (4, SV.ptr 1 0), (5, SV.bool true), (6, I64 3)]) [some (Box.cells [I64 0, I64 0, I64 0]), some (Box.cells [I64 x, I64 y, I64 (parseV (nthW v 3)).fst])])))
     (.node (decide ((parseV (nthW v 3)).fst < -65536))
      (.req (true) (.leaf (Stop.at (loopOf Tryd.prog 58 0) 61 (slotsS 61 [(0, SV.list Ty.str v), (2, SV.ptr 0 0), (4, SV.ptr 1 0), (5, SV.bool true), (6, I64 3)]) [some (Box.cells [I64 0, I64 0, I64 0]), some (Box.cells [I64 x, I64 y, I64 (parseV (nthW v 3)).fst])])))
      (.req (true) (.leaf (Stop.at (loopOf Tryd.prog 58 0) 61 (slotsS 61 [(0, SV.list Ty.str v), (2, SV.ptr 0 0), (4, SV.ptr 1 0), (5, SV.bool (decide ((parseV (nthW v 3)).fst > 65536))), (6, I64 3)]) [some (Box.cells [I64 0, I64 0, I64 0]), some (Box.cells [I64 x, I64 y, I64 (parseV (nthW v 3)).fst])]))))))))
theorem cr3 (v : List (List UInt8)) (o : Bool) (x y : Int) : segR (Env.of Tryd.prog (sumOf [fRP])) 1000 (fnOf Tryd.prog 58) .unit (keepS 61 [0,2,4,5,6]) (loopOf Tryd.prog 58 0) cr3_p (slotsS 61 [(0, .list .str v), (2, .ptr 0 0), (4, .ptr 1 0), (5, .bool o), (6, I64 2)]) [some (.cells [I64 0, I64 0, I64 0]), some (.cells [I64 x, I64 y, I64 0])] = cr3_t v o x y := by kernel_rfl
def cr4_p : Plan := .lit (.fork (.all) (.all))
noncomputable def cr4_t (v : List (List UInt8)) (o : Bool) (x y z : Int) : Tree Stop :=
   .node (o)
 (.leaf (Stop.done (SV.tuple [SV.agg [I64 0, I64 0, I64 0], I64 8])))
 (.req (true) (.req (true) (.req (true) (.leaf (Stop.done (SV.tuple [SV.agg [I64 x, I64 y, I64 z], I64 0]))))))
theorem cr4 (v : List (List UInt8)) (o : Bool) (x y z : Int) : segR (Env.of Tryd.prog (sumOf [fRP])) 1000 (fnOf Tryd.prog 58) .unit (keepS 61 [0,2,4,5,6]) (loopOf Tryd.prog 58 0) cr4_p (slotsS 61 [(0, .list .str v), (2, .ptr 0 0), (4, .ptr 1 0), (5, .bool o), (6, I64 3)]) [some (.cells [I64 0, I64 0, I64 0]), some (.cells [I64 x, I64 y, I64 z])] = cr4_t v o x y z := by kernel_rfl
end Go.Proofs.YtlhkgeoahblffaaDoor
