/-
  Sx9: append, lengths, the least and the greatest, what is built and made, ranges over strings.
-/
import Derived.Test.YtibpodgdondakaaSx8
set_option linter.unusedSimpArgs false
set_option linter.unusedVariables false
namespace Go.Sx
open Go.RowKit
section
variable {P : Program} {E : Env} {α : Type} {L : α → Prop}

theorem not_ints {m : Mem} {u : Ty} {x : SV} {xs : List u.T} (h : elemsOf u m x = some xs) {R : Nat → Prop} {ρ : Rho} {n : Nat} {w : World} {xv : Value} (hx : Rep R ρ n w x xv) : (∃ a l c, xv = .slice a l c) ∨ ∃ s, xv = .string s := by
  cases x <;> simp only [elemsOf] at h <;> try (cases h; done)
  · exact .inr ⟨_, hx⟩
  · exact .inl ⟨_, _, _, hx⟩
  · obtain ⟨A, cap, hxv, _⟩ := hx
    injection hxv with hxv
    exact .inl ⟨_, _, _, hxv⟩
  · obtain ⟨_, A, hxv, _⟩ := hx
    exact .inl ⟨_, _, _, hxv⟩
  · exact .inl ⟨_, _, _, hx.2⟩
  case raw v =>
    split at h
    · exact .inl ⟨_, _, _, hx⟩
    · cases h

theorem repD_one {R : Nat → Prop} {w : World} : ∀ (t : Ty) (x : t.T) (vs : List Value), RepD R w t x vs → ∀ y ∈ vs, y.oneCell' = true
  | .unit, _, vs, h, y, hy => by rw [show vs = [] from h] at hy; cases hy
  | .int _, _, vs, h, y, hy => by rw [show vs = _ from h] at hy; rw [List.mem_singleton.1 hy]; rfl
  | .bool, _, vs, h, y, hy => by rw [show vs = _ from h] at hy; rw [List.mem_singleton.1 hy]; rfl
  | .str, _, vs, h, y, hy => by rw [show vs = _ from h] at hy; rw [List.mem_singleton.1 hy]; rfl
  | .list t, l, vs, h, y, hy => by
    obtain ⟨a, cap, rfl, _⟩ := h
    rw [List.mem_singleton.1 hy]; rfl
  | .pair a b, x, vs, h, y, hy => by
    obtain ⟨v1, v2, rfl, h1, h2⟩ := h
    rcases List.mem_append.1 hy with hy | hy
    · exact repD_one a x.1 v1 h1 y hy
    · exact repD_one b x.2 v2 h2 y hy

/-- Where the second operand's type is no integer: the source is what it says. -/
structure AppOK (P : Program) (ts : Array TypeId) (t e : TypeId) : Prop where
  t0 : ts[0]? = some t
  t1 : ∃ t1, ts[1]? = some t1 ∧ ((∃ e', P.underlying t1 = some (.slice e')) ∨ P.underlying t1 = some .string)

theorem append_room {ts : Array TypeId} {t e ty : TypeId} {re : Row} (ha : AppOK P ts t e) (hu : P.underlying t = some (.slice e)) (hok : RowOK P e re) {base : Option Addr} {len cap : Nat} {xv : Value} {n : Nat} {w : World} (hn : (Builtin.lenOf xv).run P w = .ok n w) (hle : len + n ≤ cap) :
    (Builtin.append_ ts ty #[.slice base len cap, xv]).run P w = ((Builtin.firstCells re.size n xv).run P w).andThen fun new w => match base with
      | some a => ((storeCells (a.add (len * re.size)) new.toList).run P w).andThen fun _ w => .ok (.slice base (len + n) cap) w
      | none => .ok (.slice base (len + n) cap) w := by
  obtain ⟨t1, ht1, hd⟩ := ha.t1
  rcases hd with ⟨e', hd⟩ | hd <;> cases base <;> simp [Builtin.append_, ha.t0, ht1, run_underlying hu, run_underlying hd, run_sizeOf' hok, hn, hle]

theorem append_grow {ts : Array TypeId} {t e ty : TypeId} {re : Row} (ha : AppOK P ts t e) (hu : P.underlying t = some (.slice e)) (hok : RowOK P e re) {base : Option Addr} {len cap : Nat} {xv z : Value} {n : Nat} {w : World} {old new : List Value} (hn : (Builtin.lenOf xv).run P w = .ok n w) (hgt : cap < len + n)
    (hb : 1 ≤ re.bytes) (hfit : (len + n) * re.bytes ≤ 140737488355328) (ho : (Builtin.firstCells re.size len (.slice base len cap)).run P w.drew = .ok ⟨old⟩ w.drew) (hnew : (Builtin.firstCells re.size n xv).run P w.drew = .ok ⟨new⟩ w.drew) (hz : ∀ w, (zeroValue e).run P w = .ok z w) :
    (Builtin.append_ ts ty #[.slice base len cap, xv]).run P w =
      .ok (.slice (some ⟨w.heap.size, 0, none⟩) (len + n) (grownCap w (len + n) cap e)) (w.drew.alloc (.cells (⟨old⟩ ++ ⟨new⟩ ++ Builtin.zeroCells z.cells (grownCap w (len + n) cap e - (len + n))) e)) := by
  obtain ⟨t1, ht1, hd⟩ := ha.t1
  obtain ⟨i, hi, hib, his⟩ := run_typeInfo' hok
  have h1 : ¬ len + n ≤ cap := by omega
  have h2 : ¬ i.bytes = 0 := by omega
  have h3 : ¬ (281474976710656 < Builtin.nextslicecap (len + n) cap * i.bytes) := by
    have := growslice_fits hgt hfit
    rw [hib]; omega
  rcases hd with ⟨e', hd⟩ | hd <;> simp [Builtin.append_, ha.t0, ht1, run_underlying hu, run_underlying hd, run_sizeOf' hok, hn, h1, hi, h2, h3, Question.forced, ho, hnew, hz, newRow, grownCap] <;> exact congrArg (fun c => w.drew.alloc (Obj.cells c e)) (Array.ext' (by simp))

/-- What the old row holds. -/
theorem old_cells {w0 : World} {R0 : Nat → Prop} {ρ : Rho} {w : World} {m : Mem} (hm : MRel w0 R0 ρ w m) {u : Ty} {id : Nat} {l : List u.T} (hg : m.get id = some (.rows u l)) {sv : Value} (hs : Rep (RO w0 R0 ρ w m) ρ m.next w (.row id) sv) :
    ∃ base vs, sv = .slice base l.length (ρ id).2.2 ∧ (0 < (ρ id).2.2 → base = some ⟨(ρ id).1, 0, none⟩) ∧ (Builtin.firstCells u.sz l.length sv).run P w = .ok ⟨vs⟩ w ∧ RepDL (RO w0 R0 ρ w m) w u l vs := by
  obtain ⟨vs, h1, h2, h3⟩ := elemsOf_cells (P := P) (u := u) (xs := l) (by simp [elemsOf, hg]) hm hs
  obtain ⟨hid, a, rfl, ha⟩ := hs
  obtain ⟨b1, _⟩ := hm.box id _ hg
  exact ⟨a, vs, by rw [b1], ha, h2, h3⟩

theorem firstCells_drew {size n : Nat} {v : Value} {w : World} {cs : Array Value} (h : (Builtin.firstCells size n v).run P w = .ok cs w) : (Builtin.firstCells size n v).run P w.drew = .ok cs w.drew := by
  cases v with
  | slice a l c =>
    cases a with
    | none => simp only [Builtin.firstCells, Sem.run_pure, Result.ok.injEq] at h ⊢; exact ⟨h.1, trivial⟩
    | some a =>
      simp only [Builtin.firstCells, Go.loadCells] at h ⊢
      have key : ∀ (k i : Nat) (acc cs : Array Value), (loadCellsFrom a i k acc).run P w = .ok cs w → (loadCellsFrom a i k acc).run P w.drew = .ok cs w.drew := by
        intro k
        induction k with
        | zero => intro i acc cs h; simp only [loadCellsFrom, Sem.run_pure, Result.ok.injEq] at h ⊢; exact ⟨h.1, trivial⟩
        | succ k ih =>
          intro i acc cs h
          simp only [loadCellsFrom, Sem.run_bind, run_load, World.cell?_drew] at h ⊢
          cases hc : w.cell? (a.add i) with
          | some v => rw [hc] at h; exact ih _ _ _ h
          | none =>
            rw [hc] at h
            dsimp only at h ⊢
            have hf : w.drew.farLoad P (a.add i) (Mode.plain == .atomic) = w.farLoad P (a.add i) (Mode.plain == .atomic) := rfl
            rw [hf]
            cases hq : w.farLoad P (a.add i) (Mode.plain == .atomic) with
            | ok q => rw [hq] at h; exact ih _ _ _ h
            | error e => rw [hq] at h; cases h
      exact key _ _ _ _ h
  | string s => simp only [Builtin.firstCells, Sem.run_pure, Result.ok.injEq] at h ⊢; exact ⟨h.1, trivial⟩
  | _ => simp [Builtin.firstCells] at h

/-- The grown row. -/
theorem grown_out {w0 : World} {R0 : Nat → Prop} {ρ : Rho} {w : World} {m m' : Mem} {u : Ty} {l xs : List u.T} {old new : List Value} {e : TypeId} {z : Value} {cap : Nat} (hm : MRel w0 R0 ρ w m) (hp : MPush m (.rows u (l ++ xs)) m') (ho : RepDL (RO w0 R0 ρ w m) w u l old) (hn : RepDL (RO w0 R0 ρ w m) w u xs new)
    (hz : ∀ R w, RepD R w u u.dflt z.cells.toList) :
    OpOut w0 R0 ρ w m (.row m.next) m' (.slice (some ⟨w.heap.size, 0, none⟩) (l.length + xs.length) (grownCap w (l.length + xs.length) cap e)) (w.drew.alloc (.cells (⟨old⟩ ++ ⟨new⟩ ++ Builtin.zeroCells z.cells (grownCap w (l.length + xs.length) cap e - (l.length + xs.length))) e)) := by
  have hzs : z.cells.size = u.sz := by
    have := (RepD.flat (ρ := ρ) (n := 0) u u.dflt _ (hz (fun _ => True) w)).1
    simpa using this
  have hcap : l.length + xs.length ≤ grownCap w (l.length + xs.length) cap e := Nat.le_add_right _ _
  have := push_rows (u := u) (l := l ++ xs) (cap := grownCap w (l.length + xs.length) cap e) (vs := old ++ new) (rest := (Builtin.zeroCells z.cells (grownCap w (l.length + xs.length) cap e - (l.length + xs.length))).toList)
    (w1 := w.drew.alloc (.cells (⟨old⟩ ++ ⟨new⟩ ++ Builtin.zeroCells z.cells (grownCap w (l.length + xs.length) cap e - (l.length + xs.length))) e)) hm hp rfl rfl rfl (by simp) (fun k hk => Below.heap_alloc w.drew _ k hk) (heap_alloc_new w.drew _) (unfrozen_zero _)
    (by
      have h1 := ho.length
      have h2 := hn.length
      simp only [Array.size_append, Builtin.zeroCells, Array.size_map, Array.size_range, hzs]
      have e1 : (⟨old⟩ : Array Value).size = old.length := rfl
      have e2 : (⟨new⟩ : Array Value).size = new.length := rfl
      rw [e1, e2, h1, h2, ← Nat.add_mul, ← Nat.add_mul]
      congr 1; omega)
    (by simpa using hcap) (by simp) (ho.append hn)
  simpa using this

theorem opAppend_sound (hE : EOK P E) {t : TypeId} {s x : SV} {p : Plan} {m : Mem} {κ : Kont α} (h : (opAppend E t s x p m κ).holds L) :
    ∃ v p' m', (κ v p' m').holds L ∧ ∀ (ts : Array TypeId) ty w0 R0 ρ w (sv xv : Value), (∀ e, P.underlying t = some (.slice e) → AppOK P ts t e) → MRel w0 R0 ρ w m → Rep (RO w0 R0 ρ w m) ρ m.next w s sv → Rep (RO w0 R0 ρ w m) ρ m.next w x xv →
      Yields' P m v m' (Builtin.append_ ts ty #[sv, xv]) w0 R0 ρ w := by
  unfold opAppend at h
  split at h
  · rename_i e sz by_ ze ty0 eg he hrow
    have hu := (hE.row _ _ hrow).und
    dsimp only at hu
    split at h
    · rename_i de size bytes ze' u eg' he' hre
      have hok := hE.row _ _ hre
      split at h
      · rename_i hs
        simp only [Bool.and_eq_true, beq_iff_eq, Nat.ble_eq] at hs
        obtain ⟨z, hz1, _, hz3⟩ := run_zero' hok
        have hz3' := hz3 u rfl
        split at h
        · rename_i xs hxs
          split at h
          · -- nil
            obtain ⟨hb, h⟩ := h
            have hb' := of_decide_eq_true hb
            obtain ⟨m', h1, h2⟩ := Mem.push_holds h
            refine ⟨_, p, m', h2, fun ts ty w0 R0 ρ w sv xv ha hm hsv hxv => ?_⟩
            rw [show sv = _ from hsv]
            obtain ⟨vs, k1, k2, k3⟩ := elemsOf_cells (P := P) hxs hm hxv
            rw [← hs.1] at k2
            by_cases h0 : xs.length = 0
            · refine ⟨_, _, (append_room (ha e hu) hu hok k1 (by omega)).trans (by rw [k2]; rfl), ?_⟩
              have hnil : xs = [] := List.eq_nil_of_length_eq_zero h0
              subst hnil
              obtain ⟨g1, g2⟩ := hm.push (w' := w) (r := (0, 0, 0)) h1 rfl rfl rfl (Nat.le_refl _) (fun _ _ => rfl) (fun hsol => absurd hsol (Nat.lt_irrefl _)) (fun R n ρ' e' => ⟨rfl, Nat.le_refl _, fun h0 => absurd h0 (Nat.lt_irrefl _)⟩)
              exact ⟨_, g1, g2, by rw [h1.2]; omega, none, by rw [upd_same]; rfl, fun h0 => by rw [upd_same] at h0; exact absurd h0 (Nat.lt_irrefl _)⟩
            · have hrun := append_grow (ts := ts) (ty := ty) (len := 0) (cap := 0) (base := none) (old := []) (new := vs) (z := z) (ha e hu) hu hok k1 (by omega) hs.2 (by simpa using hb') (by simp [Builtin.firstCells]) (firstCells_drew k2) hz1
              refine ⟨_, _, hrun, ?_⟩
              have := grown_out (l := []) (xs := xs) (old := []) (new := vs) (e := e) (z := z) (cap := 0) hm (by simpa using h1) rfl k3 hz3'
              simpa using this
          · -- a row of the call's own
            rename_i id
            split at h
            · rename_i v l hg
              split at h
              · rename_i hv
                subst hv
                obtain ⟨hb, h⟩ := h
                have hb' := of_decide_eq_true hb
                obtain ⟨m1, h1, h2⟩ := Mem.set_holds h
                obtain ⟨m', h3, h4⟩ := Mem.push_holds h2
                refine ⟨_, p, m', h4, fun ts ty w0 R0 ρ w sv xv ha hm hsv hxv => ?_⟩
                obtain ⟨vs, k1, k2, k3⟩ := elemsOf_cells (P := P) hxs hm hxv
                obtain ⟨base, olds, rfl, hbase, o2, o3⟩ := old_cells (P := P) hm hg hsv
                rw [← hs.1] at k2 o2
                obtain ⟨d1, d2⟩ := hm.drop h1
                have hlen1 : m1.next = m.next := h1.2
                by_cases hle : l.length + xs.length ≤ (ρ id).2.2
                · -- in place
                  have hrun := append_room (ty := ty) (base := base) (len := l.length) (cap := (ρ id).2.2) (ha e hu) hu hok k1 hle
                  rw [k2] at hrun
                  rcases Nat.eq_zero_or_pos (ρ id).2.2 with hc0 | hc0
                  · -- no room at all: nothing is appended
                    have hl0 : l = [] := List.eq_nil_of_length_eq_zero (by omega)
                    have hx0 : xs = [] := List.eq_nil_of_length_eq_zero (by omega)
                    subst hl0 hx0
                    have hvs : vs = [] := k3
                    subst hvs
                    have hrun' : (Builtin.append_ ts ty #[.slice base ([] : List v.T).length (ρ id).2.2, xv]).run P w = .ok (.slice base 0 (ρ id).2.2) w := by
                      rw [hrun]
                      cases base <;> rfl
                    refine ⟨_, _, hrun', ?_⟩
                    obtain ⟨g1, g2⟩ := d1.push (w' := w) (r := (0, 0, 0)) h3 rfl rfl rfl (Nat.le_refl _) (fun _ _ => rfl) (fun hsol => absurd hsol (Nat.lt_irrefl _)) (fun R n ρ' e' => ⟨rfl, Nat.le_refl _, fun h0 => absurd h0 (Nat.lt_irrefl _)⟩)
                    exact ⟨_, g1, d2.trans g2, by rw [h3.2]; omega, base, by rw [upd_same, hc0], fun h0 => by rw [upd_same] at h0; exact absurd h0 (Nat.lt_irrefl _)⟩
                  · obtain rfl := hbase hc0
                    obtain ⟨arr, el, fr, q1, q2, q3, q4⟩ := rows_repDL hm hg hc0
                    have hvl := k3.length
                    have hroom : l.length * v.sz + vs.length ≤ arr.size := by
                      rw [q3, hvl, ← Nat.add_mul]; exact Nat.mul_le_mul_right _ hle
                    have hone : ∀ y ∈ vs, y.oneCell' = true := by
                      have : ∀ (ls : List v.T) (us : List Value), RepDL (RO w0 R0 ρ w m) w v ls us → ∀ y ∈ us, y.oneCell' = true := by
                        intro ls
                        induction ls with
                        | nil => intro us h y hy; rw [show us = [] from h] at hy; cases hy
                        | cons a ls ih =>
                          intro us h y hy
                          obtain ⟨v1, v2, rfl, r1, r2⟩ := h
                          rcases List.mem_append.1 hy with hy | hy
                          · obtain ⟨f1, f2⟩ := RepD.flat (ρ := ρ) (n := m.next) v a v1 r1
                            exact repD_one v a v1 r1 y hy
                          · exact ih v2 r2 y hy
                      exact this xs vs k3
                    obtain ⟨w', r1, r2, r3, r4, r5, r6, r7⟩ := run_storeCells' (P := P) (ρ id).1 (l.length * v.sz) el fr vs 0 arr w q1 q2 (by omega) hone
                    have hrun' : (Builtin.append_ ts ty #[.slice (some ⟨(ρ id).1, 0, none⟩) l.length (ρ id).2.2, xv]).run P w = .ok (.slice (some ⟨(ρ id).1, 0, none⟩) (l.length + xs.length) (ρ id).2.2) w' := by
                      rw [hrun]
                      simp only [Result.andThen_ok, Addr.add_lit, hs.1, Nat.zero_add, r1]
                    refine ⟨_, _, hrun', ?_⟩
                    rw [Nat.add_zero] at r2
                    -- the old box let go, a new one in its block
                    have hdrop : ∀ k C, m1.get k = some C → k ≠ id ∧ m.get k = some C := fun k C hk => by
                      rw [h1.1 k] at hk
                      by_cases e0 : k = id
                      · rw [if_pos e0] at hk; cases hk
                      · rw [if_neg e0] at hk; exact ⟨e0, hk⟩
                    have hnew : ∀ k C, m'.get k = some C → (k = m.next ∧ C = .rows v (l ++ xs)) ∨ (k ≠ m.next ∧ k ≠ id ∧ m.get k = some C) := fun k C hk => by
                      rw [h3.1 k, hlen1] at hk
                      by_cases e0 : k = m.next
                      · rw [if_pos e0] at hk; injection hk with hk; exact .inl ⟨e0, hk.symm⟩
                      · rw [if_neg e0] at hk; exact .inr ⟨e0, hdrop k C hk⟩
                    have hidlt : id < m.next := hm.lt id _ hg
                    have hsol : solid (ρ id) (.rows v l) := hc0
                    have hblk := hm.hi id _ hg hsol
                    have hblo := hm.lo id _ hg hsol
                    have hro : ∀ b, RO w0 R0 ρ w m b → RO w0 R0 (upd ρ m.next ((ρ id).1, l.length + xs.length, (ρ id).2.2)) w' m' b := fun b hb => by
                      have hne := hm.ro_ne hb hg hsol
                      rcases hb with hb | ⟨g1, g2, g3⟩
                      · exact .inl hb
                      · refine .inr ⟨g1, by omega, fun k C hk hs' => ?_⟩
                        rcases hnew k C hk with ⟨rfl, rfl⟩ | ⟨n1, n2, n3⟩
                        · rw [upd_same]; exact hne
                        · rw [upd_other _ _ n1] at hs' ⊢; exact g3 k C n3 hs'
                    have hext : MExt w0 R0 ρ w m (upd ρ m.next ((ρ id).1, l.length + xs.length, (ρ id).2.2)) w' m' :=
                      ⟨by rw [h3.2]; omega, fun k hk => upd_other _ _ (by omega), fun b hb => ⟨hro b hb, r7 b (Ne.symm (hm.ro_ne hb hg hsol))⟩⟩
                    have harr : (overA arr (l.length * v.sz) vs).toList = (arr.toList.take (l.length * v.sz) ++ vs) ++ arr.toList.drop (l.length * v.sz + vs.length) := by simp [overA]
                    refine ⟨_, ⟨hm.below.trans ⟨r3, r4, r5, by omega, fun k hk => r7 k (by omega)⟩, fun k C hk => ?_, fun k C hk hs' => ?_, fun k C hk hs' => ?_, fun k k' C C' hk hk' hs1 hs2 he0 => ?_, fun k C hk => ?_⟩, hext, by rw [h3.2]; omega, _, by rw [hlen1, upd_same], fun _ => by rw [hlen1, upd_same]⟩
                    · rw [h3.2]
                      rcases hnew k C hk with ⟨rfl, _⟩ | ⟨_, _, n3⟩
                      · omega
                      · have := hm.lt k C n3; omega
                    · rcases hnew k C hk with ⟨rfl, rfl⟩ | ⟨n1, _, n3⟩
                      · rw [upd_same]; exact hblo
                      · rw [upd_other _ _ n1] at hs' ⊢; exact hm.lo k C n3 hs'
                    · rw [r6]
                      rcases hnew k C hk with ⟨rfl, rfl⟩ | ⟨n1, _, n3⟩
                      · rw [upd_same]; exact hblk
                      · rw [upd_other _ _ n1] at hs' ⊢; exact hm.hi k C n3 hs'
                    · rcases hnew k C hk with ⟨rfl, rfl⟩ | ⟨n1, n2, n3⟩ <;> rcases hnew k' C' hk' with ⟨rfl, rfl⟩ | ⟨n1', n2', n3'⟩
                      · rfl
                      · rw [upd_same] at he0; rw [upd_other _ _ n1'] at he0 hs2
                        exact absurd (hm.inj id k' _ C' hg n3' hsol hs2 he0).symm n2'
                      · rw [upd_same] at he0; rw [upd_other _ _ n1] at he0 hs1
                        exact absurd (hm.inj k id C _ n3 hg hs1 hsol he0) n2
                      · rw [upd_other _ _ n1] at he0 hs1; rw [upd_other _ _ n1'] at he0 hs2
                        exact hm.inj k k' C C' n3 n3' hs1 hs2 he0
                    · rcases hnew k C hk with ⟨rfl, rfl⟩ | ⟨n1, n2, n3⟩
                      · rw [upd_same]
                        exact boxRows_of (by simp) (by simpa using hle) r2 (unfrozen_over q2 hroom) (by rw [overA_size hroom]; exact q3) harr ((RepDL.mono hext.keep q4).append (RepDL.mono hext.keep k3))
                      · rw [upd_other _ _ n1]
                        exact BoxRel.mono hext C (fun hs' => r7 _ fun he0 => n2 (hm.inj k id C _ n3 hg hs' hsol he0)) (hm.box k C n3)
                · -- a new row
                  have hrun := append_grow (ts := ts) (ty := ty) (len := l.length) (cap := (ρ id).2.2) (base := base) (old := olds) (new := vs) (z := z) (ha e hu) hu hok k1 (by omega) hs.2 hb' (firstCells_drew o2) (firstCells_drew k2) hz1
                  refine ⟨_, _, hrun, ?_⟩
                  obtain ⟨ρ', g1, g2, g3⟩ := grown_out (e := e) (z := z) (cap := (ρ id).2.2) d1 h3 (RepDL.mono d2.keep o3) (RepDL.mono d2.keep k3) hz3'
                  exact ⟨ρ', g1, d2.trans g2, g3⟩
              · exact h.elim
            · exact h.elim
          · -- an array's slice
            rename_i id off n
            split at h
            · rename_i l hl
              obtain ⟨p', h⟩ := dec_holds h
              cases hxe : xs.isEmpty with
              | true =>
              rw [hxe] at h
              refine ⟨_, p', m, h, fun ts ty w0 R0 ρ w sv xv ha hm hsv hxv => ?_⟩
              have hnil : xs = [] := by simpa using hxe
              subst hnil
              obtain ⟨vs, k1, k2, k3⟩ := elemsOf_cells (P := P) hxs hm hxv
              rw [← hs.1] at k2
              have hvs : vs = [] := k3
              subst hvs
              obtain ⟨hid, rfl⟩ := hsv
              refine Plainly.yields (m := m) ⟨.slice (some ⟨(ρ id).1, off, none⟩) n n, ?_, hid, rfl⟩ hm
              have hrun := append_room (ts := ts) (ty := ty) (base := some ⟨(ρ id).1, off, none⟩) (len := n) (cap := n) (ha e hu) hu hok k1 (Nat.le_refl _)
              rw [hrun, k2]
              rfl
              | false =>
              rw [hxe] at h
              obtain ⟨hb2, h⟩ := h
              have hb : 0 < xs.length ∧ (l.length + xs.length) * bytes ≤ 140737488355328 := ⟨by cases xs with | nil => cases hxe | cons _ _ => simp, by simpa using hb2⟩
              obtain ⟨m', h1, h2⟩ := Mem.push_holds h
              refine ⟨_, p', m', h2, fun ts ty w0 R0 ρ w sv xv ha hm hsv hxv => ?_⟩
              obtain ⟨vs, k1, k2, k3⟩ := elemsOf_cells (P := P) hxs hm hxv
              obtain ⟨olds, o1, o2, o3⟩ := elemsOf_cells (P := P) hl hm hsv
              obtain ⟨_, rfl⟩ := hsv
              rw [← hs.1] at k2 o2
              have hn : n = l.length := by simpa [Builtin.lenOf] using o1
              subst hn
              have hrun := append_grow (ts := ts) (ty := ty) (len := l.length) (cap := l.length) (old := olds) (new := vs) (z := z) (ha e hu) hu hok k1 (by omega) hs.2 hb.2 (firstCells_drew o2) (firstCells_drew k2) hz1
              exact ⟨_, _, hrun, grown_out (e := e) (z := z) (cap := l.length) hm h1 o3 k3 hz3'⟩
            · exact h.elim
          · exact h.elim
        · exact h.elim
      · exact h.elim
    · exact h.elim
  · exact h.elim
end
end Go.Sx
