/-
  Sx6: arithmetic, strings, slices, append, what is built and made, ranges over strings: each agrees with the model's.
-/
import Derived.Test.YtibpodgdondakaaSx5
import Derived.Lib.ConvBytes
import Derived.Lib.Strings
import Derived.Laws.BytesString
import Derived.Laws.BytesArg
import Derived.Laws.Append
set_option linter.unusedSimpArgs false
set_option linter.unusedVariables false
namespace Go.Sx
open Go.RowKit
section
variable {P : Program} {E : Env} {α : Type} {L : α → Prop}

theorem intOp_run {op : BinOp} {k : IntKind} {a b : Int} {v : SV} (h : intOp op k a b = some v) (t : TypeId) (w : World) : ∃ u, (Go.binOp op t (.int k a) (.int k b)).run P w = .ok u w ∧ ∀ R ρ n, Rep R ρ n w v u := by
  cases op <;> simp only [intOp, Option.some.injEq] at h <;> first
    | (cases h; done)
    | (subst h; exact ⟨_, by simp [Go.binOp, Op.intArith, Op.intBits, Op.intCmp], fun _ _ _ => rfl⟩)

theorem toList_mk' (l : List UInt8) : (ByteArray.mk ⟨l⟩).toList = l := ByteArray.toList_eq _

theorem strOp_run {op : BinOp} {a b : List UInt8} {v : SV} (h : strOp op a b = some v) (t : TypeId) (w : World) : ∃ u, (Go.binOp op t (.string ⟨⟨a⟩⟩) (.string ⟨⟨b⟩⟩)).run P w = .ok u w ∧ ∀ R ρ n, Rep R ρ n w v u := by
  cases op <;> simp only [strOp, Option.some.injEq] at h <;> first
    | (cases h; done)
    | (subst h; exact ⟨_, by simp [Go.binOp, Op.stringOp, toList_mk'], fun _ _ _ => rfl⟩)

theorem eqIn_shape {d : Nat} {t : TypeId} {x y : SV} {b : Bool} (h : eqIn E d t x y = some b) : (∃ k a k' c, x = .int k a ∧ y = .int k' c) ∨ (∃ a c, x = .str a ∧ y = .str c) ∨ (∃ a c, x = .bool a ∧ y = .bool c) ∨ (∃ a c, x = .agg a ∧ y = .agg c) := by
  cases d with
  | zero => unfold eqIn at h; cases h
  | succ d =>
    unfold eqIn at h
    split at h
    · split at h
      · exact .inr (.inr (.inl ⟨_, _, rfl, rfl⟩))
      · cases h
    · split at h
      · exact .inl ⟨_, _, _, _, rfl, rfl⟩
      · cases h
    · split at h
      · exact .inr (.inl ⟨_, _, rfl, rfl⟩)
      · cases h
    · split at h
      · exact .inr (.inr (.inr ⟨_, _, rfl, rfl⟩))
      · cases h
    · split at h
      · exact .inr (.inr (.inr ⟨_, _, rfl, rfl⟩))
      · cases h
    · cases h

theorem run_equal_nil {t e : TypeId} (hu : P.underlying t = some (.slice e)) (a : Option Addr) (l c l' c' : Nat) (w : World) : (Op.equal t (.slice a l c) (.slice none l' c')).run P w = .ok a.isNone w := by
  have key : ∀ d, (Op.equalIn (d + 1) t (.slice a l c) (.slice none l' c')).run P w = .ok a.isNone w := fun d => by
    simp only [Op.equalIn, Sem.run_bind, run_underlying hu, Result.andThen_ok]
    cases a <;> rfl
  exact key 9999

theorem opBin_sound (hE : EOK P E) {op : BinOp} {t : TypeId} {x y : SV} {p : Plan} {m : Mem} {κ : Kont α} (h : (opBin E op t x y p m κ).holds L) :
    ∃ v, (κ v p m).holds L ∧ ∀ (m : Mem) w0 R0 ρ w (xv yv : Value) (xo yo : Operand), Rep (RO w0 R0 ρ w m) ρ m.next w x xv → Rep (RO w0 R0 ρ w m) ρ m.next w y yv → Plainly P m v (do eqGuard op t xo yo xv yv; Go.binOp op t xv yv) w0 R0 ρ w := by
  unfold opBin at h
  split at h
  · rename_i k a k' b
    split at h
    · obtain ⟨hb, h⟩ := h
      refine ⟨_, h, fun m w0 R0 ρ w xv yv xo yo hx hy => ?_⟩
      rw [show xv = _ from hx, show yv = _ from hy]
      have hb' : ¬ b < 0 := by have := of_decide_eq_true hb; omega
      exact ⟨_, by simp [eqGuard_at_int, Go.binOp, Op.shift, hb'], rfl⟩
    · obtain ⟨hb, h⟩ := h
      refine ⟨_, h, fun m w0 R0 ρ w xv yv xo yo hx hy => ?_⟩
      rw [show xv = _ from hx, show yv = _ from hy]
      have hb' : ¬ b < 0 := by have := of_decide_eq_true hb; omega
      exact ⟨_, by simp [eqGuard_at_int, Go.binOp, Op.shift, hb'], rfl⟩
    · split at h
      · rename_i hk
        subst hk
        split at h
        · obtain ⟨hb, h⟩ := h
          refine ⟨_, h, fun m w0 R0 ρ w xv yv xo yo hx hy => ?_⟩
          rw [show xv = _ from hx, show yv = _ from hy]
          have hb' : ¬ b = 0 := by simpa using hb
          exact ⟨_, by simp [eqGuard_at_int, Go.binOp, Op.intDiv, hb'], rfl⟩
        · obtain ⟨hb, h⟩ := h
          refine ⟨_, h, fun m w0 R0 ρ w xv yv xo yo hx hy => ?_⟩
          rw [show xv = _ from hx, show yv = _ from hy]
          have hb' : ¬ b = 0 := by simpa using hb
          exact ⟨_, by simp [eqGuard_at_int, Go.binOp, Op.intDiv, hb'], rfl⟩
        · split at h
          · rename_i v hv
            refine ⟨v, h, fun m w0 R0 ρ w xv yv xo yo hx hy => ?_⟩
            rw [show xv = _ from hx, show yv = _ from hy]
            obtain ⟨u, h1, h2⟩ := intOp_run (P := P) hv t w
            exact ⟨u, by simp only [eqGuard_at_int, pure_bind, h1], h2 _ _ _⟩
          · exact h.elim
      · exact h.elim
  · rename_i a b
    split at h
    · obtain ⟨hb, h⟩ := h
      refine ⟨_, h, fun m w0 R0 ρ w xv yv xo yo hx hy => ?_⟩
      rw [show xv = _ from hx, show yv = _ from hy]
      have hb' : ¬ (9223372036854775807 : Int) < ((a.length + b.length : Nat) : Int) := by have := of_decide_eq_true hb; omega
      refine ⟨.string ⟨⟨a ++ b⟩⟩, ?_, rfl⟩
      simp only [eqGuard_at_string, pure_bind, Go.binOp, Op.stringOp]
      have hs : ∀ l : List UInt8, (ByteArray.mk ⟨l⟩).size = l.length := fun l => rfl
      rw [hs, hs, if_neg (by rw [IntKind.max_i64]; exact hb')]
      simp only [Sem.run_pure, Result.ok.injEq, and_true, Value.string.injEq]
      apply ByteArray.ext
      simp
    · split at h
      · rename_i v hv
        refine ⟨v, h, fun m w0 R0 ρ w xv yv xo yo hx hy => ?_⟩
        rw [show xv = _ from hx, show yv = _ from hy]
        obtain ⟨u, h1, h2⟩ := strOp_run (P := P) hv t w
        exact ⟨u, by simp only [eqGuard_at_string, pure_bind, h1], h2 _ _ _⟩
      · exact h.elim
  · rename_i hni hns
    have key : ∀ (b : Bool) (op : BinOp), (op = .eql ∨ op = .neq) → (∃ r, E.row t = some r ∧ r.eqg = false) → eqIn E 100 t x y = some b → ∀ (m : Mem) w0 R0 ρ w (xv yv : Value) (xo yo : Operand), Rep (RO w0 R0 ρ w m) ρ m.next w x xv → Rep (RO w0 R0 ρ w m) ρ m.next w y yv →
        (do eqGuard op t xo yo xv yv; Go.binOp op t xv yv).run P w = .ok (.bool (if op = .eql then b else !b)) w := by
      intro b op hop ⟨r, hr, hg⟩ he m w0 R0 ρ w xv yv xo yo hx hy
      have hok := hE.row _ _ hr
      have hq := eqIn_sound (P := P) hE 100 t x y b he 10000 (by omega) hx hy
      rcases eqIn_shape he with ⟨k, a, k', c, rfl, rfl⟩ | ⟨a, c, rfl, rfl⟩ | ⟨a, c, rfl, rfl⟩ | ⟨a, c, rfl, rfl⟩
      · exact (hni _ _ _ _ rfl rfl).elim
      · exact (hns _ _ rfl rfl).elim
      · rw [show xv = _ from hx, show yv = _ from hy] at hq ⊢
        rcases hop with rfl | rfl
        · simp [eqGuard_at_bool, Go.binOp, Op.equal, Op.maxDepth, hq]
        · simp [eqGuard_at_bool, Go.binOp, Op.equal, Op.maxDepth, hq]
      · obtain ⟨vx, rfl, _⟩ := hx
        obtain ⟨vy, rfl, _⟩ := hy
        have hm : P.eqGuardType P.depth t = false := by rw [← hok.eqg]; exact hg
        rcases hop with rfl | rfl
        · simp only [Sem.run_bind, run_eqGuard_agg w _ t xo yo _ _ hm, Result.andThen_ok, run_eql_struct, hq]; rfl
        · simp only [Sem.run_bind, run_eqGuard_agg w _ t xo yo _ _ hm, Result.andThen_ok, run_neq_struct, hq]; rfl
    split at h
    · rename_i rb hnt
      split at h <;> try exact h.elim
      rename_i e sz by_ ze ty eg he hrow
      have hok := hE.row _ _ hrow
      have hu : P.underlying t = some (.slice e) := hok.und
      have kn : rb.1 = true → ∀ (m : Mem) w0 R0 ρ w (xv yv : Value) (xo yo : Operand), Rep (RO w0 R0 ρ w m) ρ m.next w x xv → Rep (RO w0 R0 ρ w m) ρ m.next w y yv → (∃ a l c l' c', xv = .slice a l c ∧ yv = .slice none l' c') ∧ (Op.equal t xv yv).run P w = .ok rb.2 w := by
        intro hr m w0 R0 ρ w xv yv xo yo hx hy
        unfold nilTest at hnt
        split at hnt
        · injection hnt with hnt; subst hnt
          rw [show xv = _ from hx, show yv = _ from hy]
          exact ⟨⟨_, _, _, _, _, rfl, rfl⟩, run_equal_nil hu _ _ _ _ _ w⟩
        · rename_i u l
          injection hnt with hnt; subst hnt
          obtain ⟨a, cap, hxv, _, hel⟩ := hx
          injection hxv with hxv
          rw [hxv, show yv = _ from hy]
          have hne : 0 < List.length l := by
            cases l with
            | nil => cases hr
            | cons _ _ => simp
          obtain ⟨b, o, rfl, _⟩ := hel hne
          exact ⟨⟨_, _, _, _, _, rfl, rfl⟩, run_equal_nil hu _ _ _ _ _ w⟩
        · injection hnt with hnt; subst hnt
          rw [show xv = _ from hx.2, show yv = _ from hy]
          exact ⟨⟨_, _, _, _, _, rfl, rfl⟩, run_equal_nil hu _ _ _ _ _ w⟩
        · split at hnt
          · injection hnt with hnt; subst hnt
            rw [show xv = _ from hx, show yv = _ from hy]
            exact ⟨⟨_, _, _, _, _, rfl, rfl⟩, run_equal_nil hu _ _ _ _ _ w⟩
          · injection hnt with hnt; subst hnt
            rw [show xv = _ from hx, show yv = _ from hy]
            exact ⟨⟨_, _, _, _, _, rfl, rfl⟩, run_equal_nil hu _ _ _ _ _ w⟩
          · cases hnt
        · cases hnt
      split at h <;> try exact h.elim
      · obtain ⟨hr, h⟩ := h
        refine ⟨_, h, fun m w0 R0 ρ w xv yv xo yo hx hy => ?_⟩
        obtain ⟨⟨a, l, c, l', c', rfl, rfl⟩, h2⟩ := kn hr m w0 R0 ρ w xv yv xo yo hx hy
        exact ⟨_, by simp only [eqGuard, Go.binOp, Sem.run_bind, Sem.run_pure, Result.andThen_ok, h2, pure_bind, Bool.not_true, Bool.false_eq_true, if_false], rfl⟩
      · obtain ⟨hr, h⟩ := h
        refine ⟨_, h, fun m w0 R0 ρ w xv yv xo yo hx hy => ?_⟩
        obtain ⟨⟨a, l, c, l', c', rfl, rfl⟩, h2⟩ := kn hr m w0 R0 ρ w xv yv xo yo hx hy
        exact ⟨_, by simp only [eqGuard, Go.binOp, Sem.run_bind, Sem.run_pure, Result.andThen_ok, h2, pure_bind, Bool.not_true, Bool.false_eq_true, if_false], rfl⟩
    split at h
    · rename_i de sz by_ ze ty he hrow
      split at h
      · split at h
        · rename_i b hb
          exact ⟨_, h, fun m w0 R0 ρ w xv yv xo yo hx hy => ⟨_, key b .eql (.inl rfl) ⟨_, hrow, rfl⟩ hb m w0 R0 ρ w xv yv xo yo hx hy, rfl⟩⟩
        · exact h.elim
      · split at h
        · rename_i b hb
          exact ⟨_, h, fun m w0 R0 ρ w xv yv xo yo hx hy => ⟨_, key b .neq (.inr rfl) ⟨_, hrow, rfl⟩ hb m w0 R0 ρ w xv yv xo yo hx hy, rfl⟩⟩
        · exact h.elim
      · exact h.elim
    · exact h.elim

theorem opUn_sound {op : UnOp} {x : SV} {p : Plan} {m : Mem} {κ : Kont α} (h : (opUn op x p m κ).holds L) :
    ∃ v, (κ v p m).holds L ∧ ∀ (m : Mem) w0 R0 ρ w (xv : Value), Rep (RO w0 R0 ρ w m) ρ m.next w x xv → Plainly P m v (Op.unary op xv) w0 R0 ρ w := by
  unfold opUn at h
  split at h
  · exact ⟨_, h, fun m w0 R0 ρ w xv hx => by rw [show xv = _ from hx]; exact ⟨_, rfl, rfl⟩⟩
  · exact ⟨_, h, fun m w0 R0 ρ w xv hx => by rw [show xv = _ from hx]; exact ⟨_, rfl, rfl⟩⟩
  · exact ⟨_, h, fun m w0 R0 ρ w xv hx => by rw [show xv = _ from hx]; exact ⟨_, rfl, rfl⟩⟩
  · exact h.elim

/-! ### Rows of data -/

def RepDL (R : Nat → Prop) (w : World) (t : Ty) : List t.T → List Value → Prop
  | [], vs => vs = []
  | x :: xs, vs => ∃ v1 v2, vs = v1 ++ v2 ∧ RepD R w t x v1 ∧ RepDL R w t xs v2

theorem RepDL.append {R : Nat → Prop} {w : World} {t : Ty} : ∀ {xs ys : List t.T} {us vs : List Value}, RepDL R w t xs us → RepDL R w t ys vs → RepDL R w t (xs ++ ys) (us ++ vs)
  | [], _, us, vs, h, k => by rw [show us = [] from h]; exact k
  | x :: xs, ys, us, vs, h, k => by
    obtain ⟨v1, v2, rfl, h1, h2⟩ := h
    exact ⟨v1, v2 ++ vs, by simp, h1, RepDL.append h2 k⟩
theorem RepDL.length {R : Nat → Prop} {w : World} {t : Ty} : ∀ {xs : List t.T} {us : List Value}, RepDL R w t xs us → us.length = xs.length * t.sz
  | [], us, h => by rw [show us = [] from h]; simp
  | x :: xs, us, h => by
    obtain ⟨v1, v2, rfl, h1, h2⟩ := h
    rw [List.length_append, (RepD.flat (ρ := fun _ => (0, 0, 0)) (n := 0) t x v1 h1).1, RepDL.length h2, List.length_cons, Nat.succ_mul, Nat.add_comm]
theorem RepDL.mono {R R' : Nat → Prop} {w w' : World} (hk : ∀ b, R b → R' b ∧ w'.heap[b]? = w.heap[b]?) {t : Ty} : ∀ {xs : List t.T} {us : List Value}, RepDL R w t xs us → RepDL R' w' t xs us
  | [], _, h => h
  | x :: xs, us, h => by
    obtain ⟨v1, v2, rfl, h1, h2⟩ := h
    exact ⟨v1, v2, rfl, RepD.mono hk t _ _ h1, RepDL.mono hk h2⟩

/-- Element by element. -/
def Elems (R : Nat → Prop) (w : World) (t : Ty) (l : List t.T) (g : Nat → Option Value) : Prop :=
  ∀ i (h : i < l.length), ∃ cs : List Value, cs.length = t.sz ∧ (∀ j, j < t.sz → g (i * t.sz + j) = cs[j]?) ∧ RepD R w t l[i] cs

theorem RepDL.elems {R : Nat → Prop} {w : World} {t : Ty} : ∀ {xs : List t.T} {us : List Value}, RepDL R w t xs us → Elems R w t xs fun k => us[k]?
  | [], _, _, i, hi => absurd hi (Nat.not_lt_zero _)
  | x :: xs, us, h, 0, hi => by
    obtain ⟨v1, v2, rfl, h1, h2⟩ := h
    have hl := (RepD.flat (ρ := fun _ => (0, 0, 0)) (n := 0) t x v1 h1).1
    exact ⟨v1, hl, fun j hj => by simp only [Nat.zero_mul, Nat.zero_add]; rw [List.getElem?_append_left (by omega)], h1⟩
  | x :: xs, us, h, i + 1, hi => by
    obtain ⟨v1, v2, rfl, h1, h2⟩ := h
    have hl := (RepD.flat (ρ := fun _ => (0, 0, 0)) (n := 0) t x v1 h1).1
    obtain ⟨cs, k1, k2, k3⟩ := RepDL.elems h2 i (by simpa using hi)
    refine ⟨cs, k1, fun j hj => ?_, by simpa using k3⟩
    rw [← k2 j hj]
    dsimp only
    rw [List.getElem?_append_right (by rw [Nat.succ_mul]; omega)]
    congr 1
    rw [Nat.succ_mul]; omega

theorem Elems.repDL {R : Nat → Prop} {w : World} {t : Ty} : ∀ {xs : List t.T} {us : List Value}, us.length = xs.length * t.sz → Elems R w t xs (fun k => us[k]?) → RepDL R w t xs us
  | [], us, hl, _ => List.eq_nil_of_length_eq_zero (by simpa using hl)
  | x :: xs, us, hl, h => by
    rw [List.length_cons, Nat.succ_mul] at hl
    obtain ⟨cs, k1, k2, k3⟩ := h 0 (by simp)
    have hcs : us.take t.sz = cs := by
      apply List.ext_getElem?
      intro j
      by_cases hj : j < t.sz
      · rw [List.getElem?_take, if_pos hj]
        have := k2 j hj
        simpa using this
      · rw [List.getElem?_take, if_neg hj, List.getElem?_eq_none (by omega)]
    refine ⟨us.take t.sz, us.drop t.sz, (List.take_append_drop _ _).symm, by rw [hcs]; exact k3, Elems.repDL (by rw [List.length_drop]; omega) fun i hi => ?_⟩
    obtain ⟨ds, d1, d2, d3⟩ := h (i + 1) (by simpa using hi)
    refine ⟨ds, d1, fun j hj => ?_, by simpa using d3⟩
    rw [← d2 j hj]
    dsimp only
    rw [List.getElem?_drop]
    congr 1
    rw [Nat.succ_mul]; omega

theorem unflatN_repDL {R : Nat → Prop} {ρ : Rho} {n : Nat} {w : World} {t : Ty} : ∀ {k : Nat} {cs : List SV} {l : List t.T} {vs : List Value}, unflatN t k cs = some l → RepL R ρ n w cs vs → RepDL R w t l vs ∧ l.length = k
  | 0, cs, l, vs, h, hr => by
    cases cs with
    | nil => simp only [unflatN] at h; injection h with h; subst h; exact ⟨hr, rfl⟩
    | cons c cs => simp [unflatN] at h
  | k + 1, cs, l, vs, h, hr => by
    simp only [unflatN] at h
    cases h1 : unflat t cs with
    | none => rw [h1] at h; cases h
    | some q =>
      obtain ⟨x, cs1⟩ := q
      rw [h1] at h
      dsimp only at h
      cases h2 : unflatN t k cs1 with
      | none => rw [h2] at h; cases h
      | some l' =>
        rw [h2] at h
        injection h with h
        subst h
        obtain ⟨v1, v2, rfl, _, r1, r2⟩ := RepD.unflat t cs x cs1 vs h1 hr
        obtain ⟨r3, r4⟩ := unflatN_repDL h2 r2
        exact ⟨⟨v1, v2, rfl, r1, r3⟩, by simp [r4]⟩

theorem bytes_repDL {R : Nat → Prop} {w : World} : ∀ (s : List UInt8), RepDL R w (.int .u8) (s.map fun b => (b.toNat : Int) : List Int) (s.map fun b => Value.int .u8 b.toNat)
  | [] => rfl
  | b :: s => ⟨[_], _, rfl, rfl, bytes_repDL s⟩

/-- A box of rows: what its block begins with. -/
theorem rows_repDL {w0 : World} {R0 : Nat → Prop} {ρ : Rho} {w : World} {m : Mem} (hm : MRel w0 R0 ρ w m) {id : Nat} {u : Ty} {l : List u.T} (h : m.get id = some (.rows u l)) (hc : 0 < (ρ id).2.2) :
    ∃ arr e fr, w.heap[(ρ id).1]? = some (.cells arr e fr) ∧ unfrozen arr fr ∧ arr.size = (ρ id).2.2 * u.sz ∧ RepDL (RO w0 R0 ρ w m) w u l (arr.toList.take (l.length * u.sz)) := by
  obtain ⟨b1, b2, hp⟩ := hm.box id _ h
  obtain ⟨arr, e, fr, h1, h2, h3, h4⟩ := hp hc
  have hle : l.length * u.sz ≤ arr.size := by rw [h3]; exact Nat.mul_le_mul_right _ b2
  refine ⟨arr, e, fr, h1, h2, h3, Elems.repDL (by rw [List.length_take]; simp; omega) fun i hi => ?_⟩
  obtain ⟨cs, k1, k2, k3⟩ := h4 i hi
  refine ⟨cs, k1, fun j hj => ?_, k3⟩
  have : i * u.sz + j < l.length * u.sz := by
    have : (i + 1) * u.sz ≤ l.length * u.sz := Nat.mul_le_mul_right _ hi
    rw [Nat.succ_mul] at this; omega
  dsimp only
  rw [List.getElem?_take, if_pos this, ← k2 j hj]
  simp

theorem boxRows_of {R : Nat → Prop} {ρ : Rho} {n : Nat} {w : World} {r : Nat × Nat × Nat} {u : Ty} {l : List u.T} {arr : Array Value} {e : TypeId} {fr : Nat × Nat} {vs rest : List Value} (h0 : l.length = r.2.1) (h0' : l.length ≤ r.2.2)
    (h1 : w.heap[r.1]? = some (.cells arr e fr)) (h2 : unfrozen arr fr) (h3 : arr.size = r.2.2 * u.sz) (h4 : arr.toList = vs ++ rest) (h5 : RepDL R w u l vs) : BoxRel R ρ n w r (.rows u l) := by
  refine ⟨h0, h0', fun _ => ⟨arr, e, fr, h1, h2, h3, fun i hi => ?_⟩⟩
  obtain ⟨cs, k1, k2, k3⟩ := h5.elems i hi
  refine ⟨cs, k1, fun j hj => ?_, k3⟩
  rw [← k2 j hj, ← Array.getElem?_toList, h4]
  have : i * u.sz + j < vs.length := by
    rw [h5.length]
    have : (i + 1) * u.sz ≤ l.length * u.sz := Nat.mul_le_mul_right _ hi
    rw [Nat.succ_mul] at this; omega
  rw [List.getElem?_append_left this]

theorem unfrozen_zero (arr : Array Value) : unfrozen arr (0, 0) := fun i _ h => absurd h.2 (Nat.not_lt_zero _)
end
end Go.Sx
