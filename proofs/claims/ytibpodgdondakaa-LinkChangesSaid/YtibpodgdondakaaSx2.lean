/-
  Sx2: what a value with unknowns says of a value of the model, in a world; what the memory of the evaluator says of a world; what is kept when a world grows.
-/
import Derived.Test.YtibpodgdondakaaSx1
import Derived.WalkKit
set_option linter.unusedSimpArgs false
set_option linter.unusedVariables false
namespace Go.Sx
open Go.RowKit

abbrev Rho := Nat → Nat × Nat × Nat

/-- Cells that read as a datum: every block that is looked into is readable. -/
def RepD (R : Nat → Prop) (w : World) : (t : Ty) → t.T → List Value → Prop
  | .unit, _, vs => vs = []
  | .int k, n, vs => vs = [.int k n]
  | .bool, b, vs => vs = [.bool b]
  | .str, s, vs => vs = [.string ⟨⟨s⟩⟩]
  | .list t, l, vs => ∃ (a : Option Addr) (cap : Nat), vs = [.slice a (List.length l) cap] ∧ List.length l ≤ cap ∧
      (0 < List.length l → ∃ b o, a = some ⟨b, o, none⟩ ∧ R b ∧ ∀ i (h : i < List.length l), ∃ cs : List Value, cs.length = t.sz ∧
        (∀ j, j < t.sz → w.cell? ⟨b, o + (i * t.sz + j), none⟩ = cs[j]?) ∧ RepD R w t (List.get l ⟨i, h⟩) cs)
  | .pair a b, x, vs => ∃ v1 v2, vs = v1 ++ v2 ∧ RepD R w a x.1 v1 ∧ RepD R w b x.2 v2

/-- Elements that lie one behind the other. -/
def ElemsAt (R : Nat → Prop) (w : World) (t : Ty) (b o : Nat) (l : List t.T) : Prop :=
  R b ∧ ∀ i (h : i < l.length), ∃ cs : List Value, cs.length = t.sz ∧ (∀ j, j < t.sz → w.cell? ⟨b, o + (i * t.sz + j), none⟩ = cs[j]?) ∧ RepD R w t l[i] cs

mutual
def Rep (R : Nat → Prop) (ρ : Rho) (n : Nat) (w : World) : SV → Value → Prop
  | .undef, v => v = Go.undef
  | .top, _ => True
  | .int k i, v => v = .int k i
  | .bool b, v => v = .bool b
  | .str s, v => v = .string ⟨⟨s⟩⟩
  | .nilS, v => v = .slice none 0 0
  | .list t l, v => RepD R w (.list t) l [v]
  | .row id, v => id < n ∧ ∃ a, v = .slice a (ρ id).2.1 (ρ id).2.2 ∧ (0 < (ρ id).2.2 → a = some ⟨(ρ id).1, 0, none⟩)
  | .arr id off k, v => id < n ∧ v = .slice (some ⟨(ρ id).1, off, none⟩) k k
  | .ptr id off, v => id < n ∧ v = .pointer (some ⟨(ρ id).1, off, none⟩)
  | .nilP, v => v = .pointer none
  | .eptr t l i off, v => ∃ b o, v = .pointer (some ⟨b, o + (i * t.sz + off), none⟩) ∧ i < l.length ∧ ElemsAt R w t b o l
  | .rptr id sz i off, v => id < n ∧ v = .pointer (some ⟨(ρ id).1, i * sz + off, none⟩)
  | .agg cs, v => ∃ vs : List Value, v = .agg ⟨vs⟩ ∧ RepL R ρ n w cs vs
  | .tuple cs, v => ∃ vs : List Value, v = .tuple ⟨vs⟩ ∧ RepL R ρ n w cs vs
  | .fn f first cap, v => ∃ vs us : List Value, v = .func (.func f) ⟨vs⟩ ⟨us⟩ ∧ RepL R ρ n w first vs ∧ RepL R ρ n w cap us
  | .raw u, v => v = u
def RepL (R : Nat → Prop) (ρ : Rho) (n : Nat) (w : World) : List SV → List Value → Prop
  | [], vs => vs = []
  | c :: cs, vs => ∃ u us, vs = u :: us ∧ Rep R ρ n w c u ∧ RepL R ρ n w cs us
end

/-- What is kept: names keep their blocks, readable blocks stay readable and as they were. -/
structure Ext (R : Nat → Prop) (ρ : Rho) (n : Nat) (w : World) (R' : Nat → Prop) (ρ' : Rho) (n' : Nat) (w' : World) : Prop where
  le : n ≤ n'
  same : ∀ id, id < n → ρ' id = ρ id
  keep : ∀ b, R b → R' b ∧ w'.heap[b]? = w.heap[b]?

theorem Ext.refl (R : Nat → Prop) (ρ : Rho) (n : Nat) (w : World) : Ext R ρ n w R ρ n w := ⟨Nat.le_refl _, fun _ _ => rfl, fun _ h => ⟨h, rfl⟩⟩
theorem Ext.trans {R R' R'' : Nat → Prop} {ρ ρ' ρ'' : Rho} {n n' n'' : Nat} {w w' w'' : World} (h : Ext R ρ n w R' ρ' n' w') (k : Ext R' ρ' n' w' R'' ρ'' n'' w'') : Ext R ρ n w R'' ρ'' n'' w'' :=
  ⟨Nat.le_trans h.le k.le, fun id hid => (k.same id (Nat.lt_of_lt_of_le hid h.le)).trans (h.same id hid), fun b hb => let ⟨h1, h2⟩ := h.keep b hb; let ⟨k1, k2⟩ := k.keep b h1; ⟨k1, k2.trans h2⟩⟩

theorem cell_of_heap {w w' : World} {a : Addr} (h : w'.heap[a.block]? = w.heap[a.block]?) : w'.cell? a = w.cell? a := by
  simp only [World.cell?, h]

theorem RepD.mono {R R' : Nat → Prop} {w w' : World} (hk : ∀ b, R b → R' b ∧ w'.heap[b]? = w.heap[b]?) : ∀ (t : Ty) (x : t.T) (vs : List Value), RepD R w t x vs → RepD R' w' t x vs
  | .unit, _, _, h => h
  | .int _, _, _, h => h
  | .bool, _, _, h => h
  | .str, _, _, h => h
  | .list t, l, vs, h => by
    obtain ⟨a, cap, hvs, hc, hi⟩ := h
    refine ⟨a, cap, hvs, hc, fun hp => ?_⟩
    obtain ⟨b, o, ha, hR, he⟩ := hi hp
    refine ⟨b, o, ha, (hk b hR).1, fun i h => ?_⟩
    obtain ⟨cs, h1, h2, h3⟩ := he i h
    exact ⟨cs, h1, fun j hj => (cell_of_heap (a := ⟨b, _, none⟩) (hk b hR).2).trans (h2 j hj), RepD.mono hk t _ _ h3⟩
  | .pair a b, x, vs, h => by
    obtain ⟨v1, v2, hv, h1, h2⟩ := h
    exact ⟨v1, v2, hv, RepD.mono hk a _ _ h1, RepD.mono hk b _ _ h2⟩

theorem ElemsAt.mono {R R' : Nat → Prop} {w w' : World} (hk : ∀ b, R b → R' b ∧ w'.heap[b]? = w.heap[b]?) {t : Ty} {b o : Nat} {l : List t.T} (h : ElemsAt R w t b o l) : ElemsAt R' w' t b o l :=
  ⟨(hk b h.1).1, fun i hi => by
    obtain ⟨cs, h1, h2, h3⟩ := h.2 i hi
    exact ⟨cs, h1, fun j hj => (cell_of_heap (a := ⟨b, _, none⟩) (hk b h.1).2).trans (h2 j hj), RepD.mono hk t _ _ h3⟩⟩

mutual
theorem Rep.mono {R R' : Nat → Prop} {ρ ρ' : Rho} {n n' : Nat} {w w' : World} (e : Ext R ρ n w R' ρ' n' w') : ∀ (x : SV) (v : Value), Rep R ρ n w x v → Rep R' ρ' n' w' x v
  | .undef, _, h => h
  | .top, _, _ => trivial
  | .int _ _, _, h => h
  | .bool _, _, h => h
  | .str _, _, h => h
  | .nilS, _, h => h
  | .list t l, v, h => RepD.mono e.keep (.list t) l [v] h
  | .row id, _, h => ⟨Nat.lt_of_lt_of_le h.1 e.le, by rw [e.same id h.1]; exact h.2⟩
  | .arr id _ _, _, h => ⟨Nat.lt_of_lt_of_le h.1 e.le, by rw [e.same id h.1]; exact h.2⟩
  | .ptr id _, _, h => ⟨Nat.lt_of_lt_of_le h.1 e.le, by rw [e.same id h.1]; exact h.2⟩
  | .nilP, _, h => h
  | .eptr t l i off, v, h => by
    obtain ⟨b, o, h1, h2, h3⟩ := h
    exact ⟨b, o, h1, h2, h3.mono e.keep⟩
  | .rptr id _ _ _, _, h => ⟨Nat.lt_of_lt_of_le h.1 e.le, by rw [e.same id h.1]; exact h.2⟩
  | .agg cs, v, h => by
    obtain ⟨vs, h1, h2⟩ := h
    exact ⟨vs, h1, RepL.mono e cs vs h2⟩
  | .tuple cs, v, h => by
    obtain ⟨vs, h1, h2⟩ := h
    exact ⟨vs, h1, RepL.mono e cs vs h2⟩
  | .fn f first cap, v, h => by
    obtain ⟨vs, us, h1, h2, h3⟩ := h
    exact ⟨vs, us, h1, RepL.mono e first vs h2, RepL.mono e cap us h3⟩
  | .raw _, _, h => h
theorem RepL.mono {R R' : Nat → Prop} {ρ ρ' : Rho} {n n' : Nat} {w w' : World} (e : Ext R ρ n w R' ρ' n' w') : ∀ (xs : List SV) (vs : List Value), RepL R ρ n w xs vs → RepL R' ρ' n' w' xs vs
  | [], _, h => h
  | x :: xs, vs, h => by
    obtain ⟨u, us, h1, h2, h3⟩ := h
    exact ⟨u, us, h1, Rep.mono e x u h2, RepL.mono e xs us h3⟩
end

/-! ### Memory -/

def unfrozen (arr : Array Value) (fr : Nat × Nat) : Prop := ∀ i, i < arr.size → ¬ (fr.1 ≤ i ∧ i < fr.2)

def BoxRel (R : Nat → Prop) (ρ : Rho) (n : Nat) (w : World) (r : Nat × Nat × Nat) : Box → Prop
  | .cells cs => ∃ arr e fr, w.heap[r.1]? = some (.cells arr e fr) ∧ unfrozen arr fr ∧ RepL R ρ n w cs arr.toList
  | .rows t l => l.length = r.2.1 ∧ l.length ≤ r.2.2 ∧ (0 < r.2.2 → ∃ arr e fr, w.heap[r.1]? = some (.cells arr e fr) ∧ unfrozen arr fr ∧ arr.size = r.2.2 * t.sz ∧
      ∀ i (h : i < l.length), ∃ cs : List Value, cs.length = t.sz ∧ (∀ j, j < t.sz → arr[i * t.sz + j]? = cs[j]?) ∧ RepD R w t l[i] cs)
  | .iter s pos => w.heap[r.1]? = some (.stringIter ⟨⟨s⟩⟩ pos)

/-- A box that has a block: all but rows of capacity 0. -/
def solid (r : Nat × Nat × Nat) : Box → Prop
  | .rows _ _ => 0 < r.2.2
  | _ => True

/-- The blocks that may be read as data: what the call was given, and its own blocks that are no box. -/
def RO (w0 : World) (R0 : Nat → Prop) (ρ : Rho) (w : World) (m : Mem) (b : Nat) : Prop :=
  (R0 b ∧ b < w0.heap.size) ∨ (w0.heap.size ≤ b ∧ b < w.heap.size ∧ ∀ id B, m.get id = some B → solid (ρ id) B → (ρ id).1 ≠ b)

structure MRel (w0 : World) (R0 : Nat → Prop) (ρ : Rho) (w : World) (m : Mem) : Prop where
  below : Below w0.heap.size w0 w
  lt : ∀ id B, m.get id = some B → id < m.next
  lo : ∀ id B, m.get id = some B → solid (ρ id) B → w0.heap.size ≤ (ρ id).1
  hi : ∀ id B, m.get id = some B → solid (ρ id) B → (ρ id).1 < w.heap.size
  inj : ∀ id id' B B', m.get id = some B → m.get id' = some B' → solid (ρ id) B → solid (ρ id') B' → (ρ id).1 = (ρ id').1 → id = id'
  box : ∀ id B, m.get id = some B → BoxRel (RO w0 R0 ρ w m) ρ m.next w (ρ id) B

abbrev MExt (w0 : World) (R0 : Nat → Prop) (ρ : Rho) (w : World) (m : Mem) (ρ' : Rho) (w' : World) (m' : Mem) : Prop :=
  Ext (RO w0 R0 ρ w m) ρ m.next w (RO w0 R0 ρ' w' m') ρ' m'.next w'

theorem BoxRel.mono {R R' : Nat → Prop} {ρ ρ' : Rho} {n n' : Nat} {w w' : World} (e : Ext R ρ n w R' ρ' n' w') {r : Nat × Nat × Nat} (B : Box) (hh : solid r B → w'.heap[r.1]? = w.heap[r.1]?) (h : BoxRel R ρ n w r B) : BoxRel R' ρ' n' w' r B := by
  cases B with
  | cells cs =>
    obtain ⟨arr, el, fr, h1, h2, h3⟩ := h
    exact ⟨arr, el, fr, (hh trivial).trans h1, h2, RepL.mono e _ _ h3⟩
  | rows t l =>
    obtain ⟨h0, h0', hp⟩ := h
    refine ⟨h0, h0', fun hc => ?_⟩
    obtain ⟨arr, el, fr, h1, h2, h3, h4⟩ := hp hc
    refine ⟨arr, el, fr, (hh hc).trans h1, h2, h3, fun i hi => ?_⟩
    obtain ⟨cs, k1, k2, k3⟩ := h4 i hi
    exact ⟨cs, k1, k2, RepD.mono e.keep _ _ _ k3⟩
  | iter s pos => exact (hh trivial).trans h

/-! ### Tables -/

section
variable {β : Type}
theorem Tb.get_e (i : Nat) : (Tb.e : Tb β).get i = none := rfl
theorem Tb.get_n_zero (l : Tb β) (v : Option β) (r : Tb β) : (Tb.n l v r).get 0 = v := rfl
theorem Tb.get_n_succ (l : Tb β) (v : Option β) (r : Tb β) (j : Nat) : (Tb.n l v r).get (j + 1) = Tb.pick j l.get r.get := rfl
theorem Tb.pick_even {γ : Type} {j : Nat} (h : j % 2 = 0) (a b : Nat → γ) : Tb.pick j a b = a (j / 2) := by simp [Tb.pick, h]
theorem Tb.pick_odd {γ : Type} {j : Nat} (h : ¬ j % 2 = 0) (a b : Nat → γ) : Tb.pick j a b = b (j / 2) := by
  have : Nat.beq (j % 2) 0 = false := by
    rw [← Bool.not_eq_true, Nat.beq_eq]; exact h
  simp [Tb.pick, this]

/-- What a strict store into a table leaves. -/
def TbSet (t : Tb β) (i : Nat) (v : Option β) (t' : Tb β) : Prop := ∀ k, t'.get k = if k = i then v else t.get k

theorem holds_setT {α : Type} {L : α → Prop} : ∀ (d : Nat) (t : Tb β) (i : Nat) (v : Option β) (k : Tb β → Tree α), (setT d t i v k).holds L → ∃ t', TbSet t i v t' ∧ (k t').holds L
  | 0, _, _, _, _, h => h.elim
  | d + 1, .e, 0, v, k, h => ⟨_, fun j => by cases j with
      | zero => simp [Tb.get_n_zero]
      | succ j => rw [Tb.get_n_succ]; by_cases hj : j % 2 = 0 <;> simp [Tb.pick_even, Tb.pick_odd, hj, Tb.get_e], h⟩
  | d + 1, .n l u r, 0, v, k, h => ⟨_, fun j => by cases j with
      | zero => simp [Tb.get_n_zero]
      | succ j => simp [Tb.get_n_succ], h⟩
  | d + 1, .e, i + 1, v, k, h => by
    change (Tb.pick i (fun i => setT d .e i v fun l => k (.n l none .e)) (fun i => setT d .e i v fun r => k (.n .e none r))).holds L at h
    by_cases hi : i % 2 = 0
    · rw [Tb.pick_even hi] at h
      obtain ⟨t', h1, h2⟩ := holds_setT d _ _ _ _ h
      refine ⟨_, fun j => ?_, h2⟩
      cases j with
      | zero => simp [Tb.get_n_zero, Tb.get_e]
      | succ j =>
        rw [Tb.get_n_succ]
        by_cases hj : j % 2 = 0
        · rw [Tb.pick_even hj, h1 (j / 2), Tb.get_e, Tb.get_e]
          have : j / 2 = i / 2 ↔ j + 1 = i + 1 := by omega
          simp [this]
        · rw [Tb.pick_odd hj, Tb.get_e, Tb.get_e, if_neg (by omega)]
    · rw [Tb.pick_odd hi] at h
      obtain ⟨t', h1, h2⟩ := holds_setT d _ _ _ _ h
      refine ⟨_, fun j => ?_, h2⟩
      cases j with
      | zero => simp [Tb.get_n_zero, Tb.get_e]
      | succ j =>
        rw [Tb.get_n_succ]
        by_cases hj : j % 2 = 0
        · rw [Tb.pick_even hj, Tb.get_e, Tb.get_e, if_neg (by omega)]
        · rw [Tb.pick_odd hj, h1 (j / 2), Tb.get_e, Tb.get_e]
          have : j / 2 = i / 2 ↔ j + 1 = i + 1 := by omega
          simp [this]
  | d + 1, .n l u r, i + 1, v, k, h => by
    change (Tb.pick i (fun i => setT d l i v fun l => k (.n l u r)) (fun i => setT d r i v fun r => k (.n l u r))).holds L at h
    by_cases hi : i % 2 = 0
    · rw [Tb.pick_even hi] at h
      obtain ⟨t', h1, h2⟩ := holds_setT d _ _ _ _ h
      refine ⟨_, fun j => ?_, h2⟩
      cases j with
      | zero => simp [Tb.get_n_zero]
      | succ j =>
        rw [Tb.get_n_succ, Tb.get_n_succ]
        by_cases hj : j % 2 = 0
        · rw [Tb.pick_even hj, Tb.pick_even hj, h1 (j / 2)]
          have : j / 2 = i / 2 ↔ j + 1 = i + 1 := by omega
          simp [this]
        · rw [Tb.pick_odd hj, Tb.pick_odd hj, if_neg (by omega)]
    · rw [Tb.pick_odd hi] at h
      obtain ⟨t', h1, h2⟩ := holds_setT d _ _ _ _ h
      refine ⟨_, fun j => ?_, h2⟩
      cases j with
      | zero => simp [Tb.get_n_zero]
      | succ j =>
        rw [Tb.get_n_succ, Tb.get_n_succ]
        by_cases hj : j % 2 = 0
        · rw [Tb.pick_even hj, Tb.pick_even hj, if_neg (by omega)]
        · rw [Tb.pick_odd hj, Tb.pick_odd hj, h1 (j / 2)]
          have : j / 2 = i / 2 ↔ j + 1 = i + 1 := by omega
          simp [this]
end

/-! ### The strict helpers are what they say -/

section
variable {α : Type} {L : α → Prop}

theorem frc_eq (v : SV) (k : SV → Tree α) : frc v k = k v := by cases v <;> rfl
theorem frcN_eq (n : Nat) (k : Nat → Tree α) : frcN n k = k n := by cases n <;> rfl
theorem frcL_eq : ∀ (l : List SV) (k : List SV → Tree α), frcL l k = k l
  | [], _ => rfl
  | x :: xs, k => by
    change frc x (fun x => frcL xs fun xs => k (x :: xs)) = _
    rw [frc_eq, frcL_eq xs]
theorem nth_eq {β : Type} : ∀ (l : List β) (n : Nat), nth l n = l[n]?
  | [], n => by simp [nth]
  | x :: xs, 0 => rfl
  | x :: xs, n + 1 => by
    change nth xs n = _
    rw [nth_eq xs n]; simp

theorem dec_holds {p : Plan} {b : Bool} {k : Bool → Plan → Tree α} (h : (dec p b k).holds L) : ∃ p', (k b p').holds L := by
  cases p with
  | all => cases b with
    | false => exact ⟨_, h.2 rfl⟩
    | true => exact ⟨_, h.1 rfl⟩
  | fork pt pf => cases b with
    | false => exact ⟨_, h.2 rfl⟩
    | true => exact ⟨_, h.1 rfl⟩
  | auto => cases b <;> exact ⟨_, h⟩
  | lit p => cases b <;> exact ⟨_, h⟩
  | go p => exact h.elim
  | stop => exact h.elim

/-- What stands where the cells from 'off' on are these. -/
def over (cs : List SV) (off : Nat) (vs : List SV) : List SV := cs.take off ++ vs ++ cs.drop (off + vs.length)

theorem overK_holds : ∀ (cs : List SV) (off : Nat) (vs : List SV) (k : List SV → Tree α), (overK cs off vs k).holds L → (vs = [] ∧ (k cs).holds L) ∨ (off + vs.length ≤ cs.length ∧ (k (over cs off vs)).holds L)
  | [], off, [], k, h => .inl ⟨rfl, h⟩
  | [], off, _ :: _, k, h => h.elim
  | c :: cs, off, [], k, h => .inl ⟨rfl, h⟩
  | c :: cs, 0, v :: vs, k, h => by
    change (frc v fun v => overK cs 0 vs fun ys => k (v :: ys)).holds L at h
    rw [frc_eq] at h
    rcases overK_holds cs 0 vs _ h with ⟨rfl, h1⟩ | ⟨h1, h2⟩
    · exact .inr ⟨by simp, by simpa [over] using h1⟩
    · exact .inr ⟨by simp at h1 ⊢; omega, by simpa [over, Nat.add_comm] using h2⟩
  | c :: cs, off + 1, v :: vs, k, h => by
    change (overK cs off (v :: vs) fun ys => k (c :: ys)).holds L at h
    rcases overK_holds cs off (v :: vs) _ h with ⟨h0, _⟩ | ⟨h1, h2⟩
    · cases h0
    · refine .inr ⟨by simp at h1 ⊢; omega, ?_⟩
      have e : over (c :: cs) (off + 1) (v :: vs) = c :: over cs off (v :: vs) := by
        unfold over
        rw [show off + 1 + (v :: vs).length = (off + (v :: vs).length) + 1 from by omega]
        simp only [List.take_succ_cons, List.drop_succ_cons, List.cons_append]
      rw [e]; exact h2

theorem takeK_holds : ∀ (cs : List SV) (off n : Nat) (k : List SV → Tree α), (takeK cs off n k).holds L → (n = 0 ∧ (k []).holds L) ∨ (off + n ≤ cs.length ∧ (k ((cs.drop off).take n)).holds L)
  | [], off, 0, k, h => .inl ⟨rfl, h⟩
  | [], off, n + 1, k, h => h.elim
  | c :: cs, off, 0, k, h => .inl ⟨rfl, h⟩
  | c :: cs, 0, n + 1, k, h => by
    change (frc c fun c => takeK cs 0 n fun ys => k (c :: ys)).holds L at h
    rw [frc_eq] at h
    rcases takeK_holds cs 0 n _ h with ⟨rfl, h1⟩ | ⟨h1, h2⟩
    · exact .inr ⟨by simp, by simpa using h1⟩
    · exact .inr ⟨by simp at h1 ⊢; omega, by simpa using h2⟩
  | c :: cs, off + 1, n + 1, k, h => by
    change (takeK cs off (n + 1) k).holds L at h
    rcases takeK_holds cs off (n + 1) _ h with ⟨h0, _⟩ | ⟨h1, h2⟩
    · cases h0
    · exact .inr ⟨by simp at h1 ⊢; omega, by simpa using h2⟩
end
end Go.Sx
