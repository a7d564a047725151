/-
  Sx5: addresses, parts, comparisons and arithmetic: each agrees with the model's.
-/
import Derived.Test.YtibpodgdondakaaSx4
set_option linter.unusedSimpArgs false
set_option linter.unusedVariables false
namespace Go.Sx
open Go.RowKit
section
variable {P : Program} {E : Env} {α : Type} {L : α → Prop}

/-- What a value says stays what it says: the plain yield of an operation that leaves the world alone. -/
abbrev Plainly (P : Program) (m : Mem) (v : SV) (s : Sem Value) (w0 : World) (R0 : Nat → Prop) (ρ : Rho) (w : World) : Prop :=
  ∃ u, s.run P w = .ok u w ∧ Rep (RO w0 R0 ρ w m) ρ m.next w v u

theorem addOff_rep {R : Nat → Prop} {ρ : Rho} {n : Nat} {w : World} {a v : SV} {av : Value} {k : Nat} (h : addOff a k = some v) (ha : Rep R ρ n w a av) :
    ∃ b o, av = .pointer (some ⟨b, o, none⟩) ∧ Rep R ρ n w v (.pointer (some ⟨b, o + k, none⟩)) := by
  cases a <;> simp only [addOff, Option.some.injEq] at h <;> try (cases h; done)
  case ptr id off =>
    subst h
    exact ⟨_, _, ha.2, ha.1, rfl⟩
  case eptr t l i off =>
    subst h
    obtain ⟨b, o, h1, h2, h3⟩ := ha
    exact ⟨_, _, h1, b, o, by rw [Nat.add_assoc, Nat.add_assoc], h2, h3⟩
  case rptr id sz i off =>
    subst h
    exact ⟨_, _, ha.2, ha.1, by rw [Nat.add_assoc]⟩

theorem opFieldAddr_sound (hE : EOK P E) {s : TypeId} {a : SV} {f : Nat} {p : Plan} {m : Mem} {κ : Kont α} (h : (opFieldAddr E s a f p m κ).holds L) :
    ∃ v, (κ v p m).holds L ∧ ∀ (m : Mem) w0 R0 ρ w (av : Value), Rep (RO w0 R0 ρ w m) ρ m.next w a av → Plainly P m v (Instr.fieldAt s av f) w0 R0 ρ w := by
  unfold opFieldAddr at h
  split at h
  · rename_i fs sz by_ ze ty eg he hrow
    have hok := hE.row _ _ hrow
    split at h
    · rename_i fd hfd
      split at h
      · rename_i r hr
        have hok' := hE.row _ _ hr
        split at h
        · exact h.elim
        · rename_i k hk
          split at h
          · rename_i v hv
            rw [frc_eq] at h
            refine ⟨v, h, fun m w0 R0 ρ w av ha => ?_⟩
            obtain ⟨b, o, rfl, h2⟩ := addOff_rep hv ha
            refine ⟨_, ?_, h2⟩
            have hu : P.underlying s = some (.struct fs) := hok.und
            have hsz : ¬ r.size = 0 := by omega
            simp only [Instr.fieldAt, Sem.run_bind, run_underlying hu, Result.andThen_ok, hfd, Instr.sureAddr, Sem.run_pure, fieldPlace, run_sizeOf' hok', hsz, if_false, Addr.add_lit, Sem.run_ite]
          · exact h.elim
      · exact h.elim
    · exact h.elim
  · exact h.elim

theorem run_partOf {t : TypeId} {r : Row} (hr : RowOK P t r) {R : Nat → Prop} {ρ : Rho} {n : Nat} {w : World} {cs : List SV} {vs : List Value} {off : Nat} {v : SV} (hc : RepL R ρ n w cs vs) (hv : loaded r cs off = some v) :
    ∃ u, (Go.part t ⟨vs⟩ off).run P w = .ok u w ∧ Rep R ρ n w v u := by
  unfold loaded at hv
  simp only [Go.part, Sem.run_bind, run_isAgg hr, Result.andThen_ok]
  cases ha : r.isAgg with
  | true =>
    rw [ha] at hv
    dsimp only at hv
    split at hv
    · rename_i hk
      injection hv with hv
      refine ⟨.agg ⟨(vs.drop off).take r.size⟩, ?_, by rw [← hv]; exact ⟨_, rfl, (hc.drop off).take _⟩⟩
      simp only [if_true, Sem.run_bind, run_sizeOf' hr, Result.andThen_ok, Sem.run_pure, Result.ok.injEq, and_true, Value.agg.injEq]
      apply Array.ext'
      simp [Array.toList_extract, List.extract_eq_take_drop]
    · cases hv
  | false =>
    rw [ha] at hv
    dsimp only at hv
    obtain ⟨u, h3, h4⟩ := hc.get hv
    refine ⟨u, ?_, h4⟩
    simp [h3]

theorem opField_sound (hE : EOK P E) {s : TypeId} {x : SV} {f : Nat} {p : Plan} {m : Mem} {κ : Kont α} (h : (opField E s x f p m κ).holds L) :
    ∃ v, (κ v p m).holds L ∧ ∀ (m : Mem) w0 R0 ρ w (xv : Value), Rep (RO w0 R0 ρ w m) ρ m.next w x xv → Plainly P m v (Instr.field s xv f) w0 R0 ρ w := by
  unfold opField at h
  split at h
  · rename_i fs sz by_ ze ty eg he hrow
    have hok := hE.row _ _ hrow
    split at h
    · rename_i fd cs hfd
      unfold partOf at h
      split at h
      · rename_i r hr
        have hok' := hE.row _ _ hr
        obtain ⟨v, h1, h2⟩ := loadCells_holds h
        refine ⟨v, h2, fun m w0 R0 ρ w xv hx => ?_⟩
        obtain ⟨vs, rfl, hvs⟩ := hx
        obtain ⟨u, h3, h4⟩ := run_partOf hok' hvs h1
        refine ⟨u, ?_, h4⟩
        have hu : P.underlying s = some (.struct fs) := hok.und
        simp only [Instr.field, Sem.run_bind, run_underlying hu, Result.andThen_ok, hfd, asAgg, Sem.run_pure, h3]
      · exact h.elim
    · exact h.elim
  · exact h.elim

theorem opIndexAddr_sound (hE : EOK P E) {t : TypeId} {x ix : SV} {p : Plan} {m : Mem} {κ : Kont α} (h : (opIndexAddr E t x ix p m κ).holds L) :
    ∃ v, (κ v p m).holds L ∧ ∀ m2, Shape m m2 → ∀ w0 R0 ρ w (xv iv : Value), MRel w0 R0 ρ w m2 → Rep (RO w0 R0 ρ w m2) ρ m2.next w x xv → Rep (RO w0 R0 ρ w m2) ρ m2.next w ix iv → Plainly P m2 v (Instr.indexAt t xv iv) w0 R0 ρ w := by
  unfold opIndexAddr at h
  split at h
  · rename_i k i
    split at h
    · -- a slice
      rename_i e sz by_ ze ty eg he hrow
      have hok := hE.row _ _ hrow
      have hu : P.underlying t = some (.slice e) := hok.und
      split at h
      · rename_i u l
        split at h
        · rename_i r hr
          have hok' := hE.row _ _ hr
          split at h
          · rename_i hs
            obtain ⟨hb, h⟩ := h
            simp only [Bool.and_eq_true, decide_eq_true_eq] at hb
            have hs' : r.size = u.sz := by simpa using hs
            refine ⟨_, h, fun m2 hsh w0 R0 ρ w xv iv hm hx hi => ?_⟩
            rw [show iv = _ from hi]
            obtain ⟨a, cap, hxv, hc, hel⟩ := hx
            injection hxv with hxv
            subst hxv
            obtain ⟨b, o, rfl, hR, hall⟩ := hel (by omega)
            refine ⟨.pointer (some ⟨b, o + i.toNat * u.sz, none⟩), ?_, b, o, by simp, by omega, hR, hall⟩
            simp only [Instr.indexAt, asIntOf, Sem.run_bind, run_underlying hu, Result.andThen_ok, Sem.run_pure, hb.1, hb.2, and_self, if_true, run_sizeOf' hok', hs', Addr.add_lit, Sem.run_ite]
          · exact h.elim
        · exact h.elim
      · rename_i id
        split at h
        · rename_i u l hg
          split at h
          · rename_i r hr
            have hok' := hE.row _ _ hr
            split at h
            · rename_i hs
              obtain ⟨hb, h⟩ := h
              simp only [Bool.and_eq_true, decide_eq_true_eq] at hb
              have hs' : r.size = u.sz := by simpa using hs
              refine ⟨_, h, fun m2 hsh w0 R0 ρ w xv iv hm hx hi => ?_⟩
              rw [show iv = _ from hi]
              obtain ⟨hid, a, rfl, ha⟩ := hx
              obtain ⟨B', hg2, hl⟩ := hsh id _ hg
              cases B' <;> try exact hl.elim
              rename_i u2 l2
              obtain ⟨rfl, hll⟩ := hl
              obtain ⟨b1, b2, _⟩ := hm.box id _ hg2
              rw [← hll] at b1
              obtain rfl := ha (by omega)
              refine ⟨.pointer (some ⟨(ρ id).1, 0 + i.toNat * u.sz, none⟩), ?_, hid, by simp⟩
              have hb2 : i < ((ρ id).2.1 : Int) := by rw [← b1]; exact hb.2
              simp only [Instr.indexAt, asIntOf, Sem.run_bind, run_underlying hu, Result.andThen_ok, Sem.run_pure, hb.1, hb2, and_self, if_true, run_sizeOf' hok', hs', Addr.add_lit, Sem.run_ite]
            · exact h.elim
          · exact h.elim
        · exact h.elim
      · rename_i id off n
        split at h
        · rename_i r hr
          have hok' := hE.row _ _ hr
          obtain ⟨hb, h⟩ := h
          simp only [Bool.and_eq_true, decide_eq_true_eq] at hb
          refine ⟨_, h, fun m2 hsh w0 R0 ρ w xv iv hm hx hi => ?_⟩
          rw [show iv = _ from hi]
          obtain ⟨hid, rfl⟩ := hx
          refine ⟨.pointer (some ⟨(ρ id).1, off + i.toNat * r.size, none⟩), ?_, hid, rfl⟩
          simp only [Instr.indexAt, asIntOf, Sem.run_bind, run_underlying hu, Result.andThen_ok, Sem.run_pure, hb.1, hb.2, and_self, if_true, run_sizeOf' hok', Addr.add_lit, Sem.run_ite]
        · exact h.elim
      · exact h.elim
    · -- an array
      rename_i n e sz by_ ze ty eg he hrow
      have hok := hE.row _ _ hrow
      have hu : P.underlying t = some (.array n e) := hok.und
      split at h
      · rename_i r hr
        have hok' := hE.row _ _ hr
        split at h
        · rename_i v hv
          obtain ⟨hb, h⟩ := h
          simp only [Bool.and_eq_true, decide_eq_true_eq] at hb
          refine ⟨_, h, fun m2 hsh w0 R0 ρ w xv iv hm hx hi => ?_⟩
          rw [show iv = _ from hi]
          obtain ⟨b, o, rfl, h2⟩ := addOff_rep hv hx
          refine ⟨_, ?_, h2⟩
          simp only [Instr.indexAt, asIntOf, Sem.run_bind, run_underlying hu, Result.andThen_ok, Sem.run_pure, Instr.sureAddr, hb.1, hb.2, and_self, if_true, run_sizeOf' hok', Addr.add_lit, Sem.run_ite]
        · exact h.elim
      · exact h.elim
    · exact h.elim
  · exact h.elim

theorem opIndex_sound (hE : EOK P E) {t : TypeId} {x ix : SV} {p : Plan} {m : Mem} {κ : Kont α} (h : (opIndex E t x ix p m κ).holds L) :
    ∃ v, (κ v p m).holds L ∧ ∀ (m : Mem) w0 R0 ρ w (xv iv : Value), Rep (RO w0 R0 ρ w m) ρ m.next w x xv → Rep (RO w0 R0 ρ w m) ρ m.next w ix iv → Plainly P m v (Instr.index t xv iv) w0 R0 ρ w := by
  unfold opIndex at h
  split at h
  · rename_i k i
    split at h
    · rename_i sz by_ ze ty eg he hrow
      have hok := hE.row _ _ hrow
      have hu : P.underlying t = some .string := hok.und
      split at h
      · rename_i s
        obtain ⟨hb, h⟩ := h
        simp only [Bool.and_eq_true, decide_eq_true_eq] at hb
        refine ⟨_, h, fun m w0 R0 ρ w xv iv hx hi => ?_⟩
        rw [show iv = _ from hi, show xv = _ from hx]
        refine ⟨_, ?_, rfl⟩
        have hlt : i.toNat < s.length := by omega
        have hg : (⟨⟨s⟩⟩ : ByteArray)[i.toNat]? = some (s[i.toNat]'hlt) := by
          have : i.toNat < (⟨⟨s⟩⟩ : ByteArray).size := by simpa [ByteArray.size] using hlt
          rw [getElem?_pos (⟨⟨s⟩⟩ : ByteArray) i.toNat this]
          rfl
        simp only [Instr.index, asIntOf, Sem.run_bind, run_underlying hu, Result.andThen_ok, Sem.run_pure, hb.1, if_true, hg]
        simp [hlt]
      · exact h.elim
    · rename_i n e sz by_ ze ty eg he hrow
      have hok := hE.row _ _ hrow
      have hu : P.underlying t = some (.array n e) := hok.und
      split at h
      · rename_i cs
        split at h
        · rename_i r hr
          have hok' := hE.row _ _ hr
          obtain ⟨hb, h⟩ := h
          simp only [Bool.and_eq_true, decide_eq_true_eq] at hb
          obtain ⟨v, h1, h2⟩ := loadCells_holds h
          refine ⟨v, h2, fun m w0 R0 ρ w xv iv hx hi => ?_⟩
          rw [show iv = _ from hi]
          obtain ⟨vs, rfl, hvs⟩ := hx
          obtain ⟨u, h3, h4⟩ := run_partOf hok' hvs h1
          refine ⟨u, ?_, h4⟩
          simp only [Instr.index, asIntOf, Sem.run_bind, run_underlying hu, Result.andThen_ok, Sem.run_pure, hb.1, hb.2, and_self, if_true, run_sizeOf' hok', h3, Sem.run_ite]
        · exact h.elim
      · exact h.elim
    · exact h.elim
  · exact h.elim

/-! ### Equality -/

theorem eqPart_loaded {t : TypeId} {cs : List SV} {off : Nat} {v : SV} (h : eqIn.part E t cs off = some v) : ∃ r, E.row t = some r ∧ loaded r cs off = some v := by
  unfold eqIn.part at h
  split at h
  · rename_i r hr
    refine ⟨r, hr, ?_⟩
    unfold loaded
    split at h
    · rename_i ha
      rw [ha]
      dsimp only
      split at h
      · rename_i hk; rw [if_pos (.inr hk)]; exact h
      · cases h
    · rename_i ha
      rw [show r.isAgg = false by simpa using ha]
      dsimp only
      rw [nth_eq] at h; exact h
  · cases h

theorem list_forIn_eq {β σ : Type} (xs : Array β) (init : σ) (f : β → σ → Sem (ForInStep σ)) : forIn xs init f = forIn xs.toList init f := by
  simp

theorem eqIn_sound (hE : EOK P E) : ∀ (d : Nat) (t : TypeId) (x y : SV) (b : Bool), eqIn E d t x y = some b → ∀ (D : Nat), d ≤ D → ∀ {R : Nat → Prop} {ρ : Rho} {n : Nat} {w : World} {xv yv : Value}, Rep R ρ n w x xv → Rep R ρ n w y yv →
    (Op.equalIn D t xv yv).run P w = .ok b w := by
  intro d
  induction d with
  | zero => intro t x y b h; unfold eqIn at h; cases h
  | succ d ih =>
    intro t x y b h D hD
    obtain ⟨D, rfl⟩ : ∃ D', D = D' + 1 := ⟨D - 1, by omega⟩
    have hdD : d ≤ D := by omega
    intro R ρ n w xv yv hx hy
    unfold eqIn at h
    split at h
    · rename_i sz by_ ze ty eg he hrow
      have hu := (hE.row _ _ hrow).und
      dsimp only at hu
      split at h
      · rename_i a b'
        injection h with h
        rw [show xv = _ from hx, show yv = _ from hy]
        simp only [Op.equalIn, Sem.run_bind, run_underlying hu, Result.andThen_ok, Sem.run_pure, h]
      · cases h
    · rename_i k sz by_ ze ty eg he hrow
      have hu := (hE.row _ _ hrow).und
      dsimp only at hu
      split at h
      · rename_i k1 a k2 b'
        split at h
        · rename_i hk
          injection h with h
          subst hk
          rw [show xv = _ from hx, show yv = _ from hy]
          simp only [Op.equalIn, Sem.run_bind, run_underlying hu, Result.andThen_ok, Sem.run_pure, h, if_true]
        · cases h
      · cases h
    · rename_i sz by_ ze ty eg he hrow
      have hu := (hE.row _ _ hrow).und
      dsimp only at hu
      split at h
      · rename_i a b'
        injection h with h
        rw [show xv = _ from hx, show yv = _ from hy]
        rw [run_equalIn_string w D t _ _ hu, ← h, ByteArray.toList_eq, ByteArray.toList_eq]
      · cases h
    · rename_i fs sz by_ ze ty eg hrow
      have hok := hE.row _ _ hrow
      have hu : P.underlying t = some (.struct fs) := hok.und
      have hheld : P.stoodInHeld t = false := hok.held.symm
      split at h
      · rename_i xs ys
        obtain ⟨vx, rfl, hvx⟩ := hx
        obtain ⟨vy, rfl, hvy⟩ := hy
        have hfs : P.fieldsOf t = fs := by simp [Program.fieldsOf, hu]
        rw [run_equalIn_struct w D t ⟨vx⟩ ⟨vy⟩ (by rw [hfs]; exact hu) hheld, hfs]
        clear hu hrow hok hfs
        generalize fs.toList = l at h
        clear fs
        induction l generalizing b with
        | nil => simp only [eqIn.go] at h; injection h with h; rw [← h]; rfl
        | cons f l ihl =>
          simp only [eqIn.go] at h
          split at h
          · rename_i a b' ha hb
            split at h
            · rename_i u v hu hv
              split at h
              · cases h
              · rename_i hn
                injection h with h
                obtain ⟨r1, hr1, hl1⟩ := eqPart_loaded ha
                obtain ⟨r2, hr2, hl2⟩ := eqPart_loaded hb
                obtain ⟨p1, hp1, hq1⟩ := run_partOf (P := P) (hE.row _ _ hr1) hvx hl1
                obtain ⟨p2, hp2, hq2⟩ := run_partOf (P := P) (hE.row _ _ hr2) hvy hl2
                have he := ih _ _ _ _ hu D hdD hq1 hq2
                simp only [Op.eqFields, hn, ne_eq, not_false_eq_true, if_true, Sem.run_bind, hp1, hp2, Result.andThen_ok, he]
                cases u with
                | false => rw [← h]; rfl
                | true =>
                  simp only [Bool.not_true, Bool.false_eq_true, if_false]
                  rw [Bool.true_and] at h
                  subst h
                  exact ihl _ hv
            · cases h
          · cases h
      · cases h
    · rename_i n0 e sz by_ ze ty eg he hrow
      have hok := hE.row _ _ hrow
      have hu : P.underlying t = some (.array n0 e) := hok.und
      split at h
      · rename_i xs ys r hr
        have hok' := hE.row _ _ hr
        obtain ⟨vx, rfl, hvx⟩ := hx
        obtain ⟨vy, rfl, hvy⟩ := hy
        simp only [Op.equalIn, Sem.run_bind, run_underlying hu, Result.andThen_ok, run_sizeOf' hok', Std.Legacy.Range.forIn_eq_forIn_range', Std.Legacy.Range.size, Nat.sub_zero, Nat.add_sub_cancel, Nat.div_one]
        clear hu hrow hok
        have key : ∀ (k i : Nat) (b : Bool), eqIn.goN E (eqIn E d) e r xs ys k i = some b →
            ((forIn (List.range' i k 1) ((none, ()) : Option Bool × Unit) fun i _ => do
              if (!(← Op.equalIn D e (← Go.part e ⟨vx⟩ (i * r.size)) (← Go.part e ⟨vy⟩ (i * r.size)))) = true then pure (ForInStep.done (some false, ())) else pure (ForInStep.yield (none, ()))) : Sem _).run P w
              = .ok (if b then (none, ()) else (some false, ())) w := by
          intro k
          induction k with
          | zero => intro i b hb; unfold eqIn.goN at hb; injection hb with hb; subst hb; rfl
          | succ k ihk =>
            intro i b hb
            unfold eqIn.goN at hb
            split at hb
            · rename_i a b' ha hb'
              split at hb
              · rename_i u v hu hv
                injection hb with hb
                obtain ⟨r1, hr1, hl1⟩ := eqPart_loaded ha
                obtain ⟨r2, hr2, hl2⟩ := eqPart_loaded hb'
                obtain ⟨p1, hp1, hq1⟩ := run_partOf (P := P) (hE.row _ _ hr1) hvx hl1
                obtain ⟨p2, hp2, hq2⟩ := run_partOf (P := P) (hE.row _ _ hr2) hvy hl2
                have he := ih _ _ _ _ hu D hdD hq1 hq2
                simp only [List.range'_succ, List.forIn_cons, Sem.run_bind, hp1, hp2, Result.andThen_ok, he]
                cases u with
                | false => rw [← hb]; rfl
                | true =>
                  simp only [Bool.not_true, Bool.false_eq_true, if_false, Sem.run_pure, Result.andThen_ok]
                  rw [Bool.true_and] at hb
                  subst hb
                  exact ihk (i + 1) _ hv
              · cases hb
            · cases hb
        have hk := key n0 0 b h
        rw [hk]
        cases b <;> rfl
      · cases h
    · cases h
end
end Go.Sx
