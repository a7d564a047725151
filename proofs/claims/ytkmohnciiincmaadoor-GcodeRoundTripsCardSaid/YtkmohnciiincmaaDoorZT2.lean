/-
  Sx5: addresses, parts, comparisons and arithmetic: each agrees with the model's.
  Sx6: arithmetic, strings, slices, append, what is built and made, ranges over strings: each agrees with the model's.
  Sx7: conversions, slices, append, what is built and made, ranges over strings.
  Sx8: parts of tuples, slices of strings and lists, append, lengths, what is built and made, ranges over strings.
  Sx9: append, lengths, the least and the greatest, what is built and made, ranges over strings.
  Sx10: lengths, the least and the greatest, what is built and made, ranges over strings, new variables.
  Sx11: one operation; the operations of a region in their order.
-/
import Derived.Test.YtkmohnciiincmaaDoorZT1
import Derived.Lib.ConvBytes
import Derived.Lib.Strings
import Derived.Laws.BytesString
import Derived.Laws.BytesArg
import Derived.Laws.Append
import Derived.Great.FillDense
set_option linter.unusedSimpArgs false
set_option linter.unusedVariables false
namespace Go.Sx
open Go.RowKit
section
variable {P : Program} {E : Env} {α : Type} {L : α → Prop}

/-- What a value says stays what it says: the plain yield of an operation that leaves the world alone. -/
abbrev Plainly (P : Program) (m : Mem) (v : SV) (s : Sem Value) (w0 : World) (R0 : Nat → Prop) (ρ : Rho) (w : World) : Prop :=
  ∃ u, s.run P w = .ok u w ∧ Rep (RO w0 R0 ρ w m) ρ m.next w v u

theorem addOff_rep {R : Nat → Prop} {ρ : Rho} {n : Nat} {w : World} {a v : SV} {av : Value} {k : Nat} (h : addOff a k = some v) (ha : Rep R ρ n w a av) :
    ∃ b o, av = .pointer (some ⟨b, o, none⟩) ∧ Rep R ρ n w v (.pointer (some ⟨b, o + k, none⟩)) := by
  cases a <;> simp only [addOff, Option.some.injEq] at h <;> try (cases h; done)
  case ptr id off =>
    subst h
    exact ⟨_, _, ha.2, ha.1, rfl⟩
  case eptr t l i off =>
    subst h
    obtain ⟨b, o, h1, h2, h3⟩ := ha
    exact ⟨_, _, h1, b, o, by rw [Nat.add_assoc, Nat.add_assoc], h2, h3⟩
  case rptr id sz i off =>
    subst h
    exact ⟨_, _, ha.2, ha.1, by rw [Nat.add_assoc]⟩

theorem opFieldAddr_sound (hE : EOK P E) {s : TypeId} {a : SV} {f : Nat} {p : Plan} {m : Mem} {κ : Kont α} (h : (opFieldAddr E s a f p m κ).holds L) :
    ∃ v, (κ v p m).holds L ∧ ∀ (m : Mem) w0 R0 ρ w (av : Value), Rep (RO w0 R0 ρ w m) ρ m.next w a av → Plainly P m v (Instr.fieldAt s av f) w0 R0 ρ w := by
  unfold opFieldAddr at h
  split at h
  · rename_i fs sz by_ ze ty eg he hrow
    have hok := hE.row _ _ hrow
    split at h
    · rename_i fd hfd
      split at h
      · rename_i r hr
        have hok' := hE.row _ _ hr
        split at h
        · exact h.elim
        · rename_i k hk
          split at h
          · rename_i v hv
            rw [frc_eq] at h
            refine ⟨v, h, fun m w0 R0 ρ w av ha => ?_⟩
            obtain ⟨b, o, rfl, h2⟩ := addOff_rep hv ha
            refine ⟨_, ?_, h2⟩
            have hu : P.underlying s = some (.struct fs) := hok.und
            have hsz : ¬ r.size = 0 := by omega
            simp only [Instr.fieldAt, Sem.run_bind, run_underlying hu, Result.andThen_ok, hfd, Instr.sureAddr, Sem.run_pure, fieldPlace, run_sizeOf' hok', hsz, if_false, Addr.add_lit, Sem.run_ite]
          · exact h.elim
      · exact h.elim
    · exact h.elim
  · exact h.elim

theorem run_partOf {t : TypeId} {r : Row} (hr : RowOK P t r) {R : Nat → Prop} {ρ : Rho} {n : Nat} {w : World} {cs : List SV} {vs : List Value} {off : Nat} {v : SV} (hc : RepL R ρ n w cs vs) (hv : loaded r cs off = some v) :
    ∃ u, (Go.part t ⟨vs⟩ off).run P w = .ok u w ∧ Rep R ρ n w v u := by
  unfold loaded at hv
  simp only [Go.part, Sem.run_bind, run_isAgg hr, Result.andThen_ok]
  cases ha : r.isAgg with
  | true =>
    rw [ha] at hv
    dsimp only at hv
    split at hv
    · rename_i hk
      injection hv with hv
      refine ⟨.agg ⟨(vs.drop off).take r.size⟩, ?_, by rw [← hv]; exact ⟨_, rfl, (hc.drop off).take _⟩⟩
      simp only [if_true, Sem.run_bind, run_sizeOf' hr, Result.andThen_ok, Sem.run_pure, Result.ok.injEq, and_true, Value.agg.injEq]
      apply Array.ext'
      simp [Array.toList_extract, List.extract_eq_take_drop]
    · cases hv
  | false =>
    rw [ha] at hv
    dsimp only at hv
    obtain ⟨u, h3, h4⟩ := hc.get hv
    refine ⟨u, ?_, h4⟩
    simp [h3]

theorem opField_sound (hE : EOK P E) {s : TypeId} {x : SV} {f : Nat} {p : Plan} {m : Mem} {κ : Kont α} (h : (opField E s x f p m κ).holds L) :
    ∃ v, (κ v p m).holds L ∧ ∀ (m : Mem) w0 R0 ρ w (xv : Value), Rep (RO w0 R0 ρ w m) ρ m.next w x xv → Plainly P m v (Instr.field s xv f) w0 R0 ρ w := by
  unfold opField at h
  split at h
  · rename_i fs sz by_ ze ty eg he hrow
    have hok := hE.row _ _ hrow
    split at h
    · rename_i fd cs hfd
      unfold partOf at h
      split at h
      · rename_i r hr
        have hok' := hE.row _ _ hr
        obtain ⟨v, h1, h2⟩ := loadCells_holds h
        refine ⟨v, h2, fun m w0 R0 ρ w xv hx => ?_⟩
        obtain ⟨vs, rfl, hvs⟩ := hx
        obtain ⟨u, h3, h4⟩ := run_partOf hok' hvs h1
        refine ⟨u, ?_, h4⟩
        have hu : P.underlying s = some (.struct fs) := hok.und
        simp only [Instr.field, Sem.run_bind, run_underlying hu, Result.andThen_ok, hfd, asAgg, Sem.run_pure, h3]
      · exact h.elim
    · exact h.elim
  · exact h.elim

theorem opIndexAddr_sound (hE : EOK P E) {t : TypeId} {x ix : SV} {p : Plan} {m : Mem} {κ : Kont α} (h : (opIndexAddr E t x ix p m κ).holds L) :
    ∃ v, (κ v p m).holds L ∧ ∀ m2, Shape m m2 → ∀ w0 R0 ρ w (xv iv : Value), MRel w0 R0 ρ w m2 → Rep (RO w0 R0 ρ w m2) ρ m2.next w x xv → Rep (RO w0 R0 ρ w m2) ρ m2.next w ix iv → Plainly P m2 v (Instr.indexAt t xv iv) w0 R0 ρ w := by
  unfold opIndexAddr at h
  split at h
  · rename_i k i
    split at h
    · -- a slice
      rename_i e sz by_ ze ty eg he hrow
      have hok := hE.row _ _ hrow
      have hu : P.underlying t = some (.slice e) := hok.und
      split at h
      · rename_i u l
        split at h
        · rename_i r hr
          have hok' := hE.row _ _ hr
          split at h
          · rename_i hs
            obtain ⟨hb, h⟩ := h
            simp only [Bool.and_eq_true, decide_eq_true_eq] at hb
            have hs' : r.size = u.sz := by simpa using hs
            refine ⟨_, h, fun m2 hsh w0 R0 ρ w xv iv hm hx hi => ?_⟩
            rw [show iv = _ from hi]
            obtain ⟨a, cap, hxv, hc, hel⟩ := hx
            injection hxv with hxv
            subst hxv
            obtain ⟨b, o, rfl, hR, hall⟩ := hel (by omega)
            refine ⟨.pointer (some ⟨b, o + i.toNat * u.sz, none⟩), ?_, b, o, by simp, by omega, hR, hall⟩
            simp only [Instr.indexAt, asIntOf, Sem.run_bind, run_underlying hu, Result.andThen_ok, Sem.run_pure, hb.1, hb.2, and_self, if_true, run_sizeOf' hok', hs', Addr.add_lit, Sem.run_ite]
          · exact h.elim
        · exact h.elim
      · rename_i id
        split at h
        · rename_i u l hg
          split at h
          · rename_i r hr
            have hok' := hE.row _ _ hr
            split at h
            · rename_i hs
              obtain ⟨hb, h⟩ := h
              simp only [Bool.and_eq_true, decide_eq_true_eq] at hb
              have hs' : r.size = u.sz := by simpa using hs
              refine ⟨_, h, fun m2 hsh w0 R0 ρ w xv iv hm hx hi => ?_⟩
              rw [show iv = _ from hi]
              obtain ⟨hid, a, rfl, ha⟩ := hx
              obtain ⟨B', hg2, hl⟩ := hsh id _ hg
              cases B' <;> try exact hl.elim
              rename_i u2 l2
              obtain ⟨rfl, hll⟩ := hl
              obtain ⟨b1, b2, _⟩ := hm.box id _ hg2
              rw [← hll] at b1
              obtain rfl := ha (by omega)
              refine ⟨.pointer (some ⟨(ρ id).1, 0 + i.toNat * u.sz, none⟩), ?_, hid, by simp⟩
              have hb2 : i < ((ρ id).2.1 : Int) := by rw [← b1]; exact hb.2
              simp only [Instr.indexAt, asIntOf, Sem.run_bind, run_underlying hu, Result.andThen_ok, Sem.run_pure, hb.1, hb2, and_self, if_true, run_sizeOf' hok', hs', Addr.add_lit, Sem.run_ite]
            · exact h.elim
          · exact h.elim
        · exact h.elim
      · rename_i id off n
        split at h
        · rename_i r hr
          have hok' := hE.row _ _ hr
          obtain ⟨hb, h⟩ := h
          simp only [Bool.and_eq_true, decide_eq_true_eq] at hb
          refine ⟨_, h, fun m2 hsh w0 R0 ρ w xv iv hm hx hi => ?_⟩
          rw [show iv = _ from hi]
          obtain ⟨hid, rfl⟩ := hx
          refine ⟨.pointer (some ⟨(ρ id).1, off + i.toNat * r.size, none⟩), ?_, hid, rfl⟩
          simp only [Instr.indexAt, asIntOf, Sem.run_bind, run_underlying hu, Result.andThen_ok, Sem.run_pure, hb.1, hb.2, and_self, if_true, run_sizeOf' hok', Addr.add_lit, Sem.run_ite]
        · exact h.elim
      · exact h.elim
    · -- an array
      rename_i n e sz by_ ze ty eg he hrow
      have hok := hE.row _ _ hrow
      have hu : P.underlying t = some (.array n e) := hok.und
      split at h
      · rename_i r hr
        have hok' := hE.row _ _ hr
        split at h
        · rename_i v hv
          obtain ⟨hb, h⟩ := h
          simp only [Bool.and_eq_true, decide_eq_true_eq] at hb
          refine ⟨_, h, fun m2 hsh w0 R0 ρ w xv iv hm hx hi => ?_⟩
          rw [show iv = _ from hi]
          obtain ⟨b, o, rfl, h2⟩ := addOff_rep hv hx
          refine ⟨_, ?_, h2⟩
          simp only [Instr.indexAt, asIntOf, Sem.run_bind, run_underlying hu, Result.andThen_ok, Sem.run_pure, Instr.sureAddr, hb.1, hb.2, and_self, if_true, run_sizeOf' hok', Addr.add_lit, Sem.run_ite]
        · exact h.elim
      · exact h.elim
    · exact h.elim
  · exact h.elim

theorem opIndex_sound (hE : EOK P E) {t : TypeId} {x ix : SV} {p : Plan} {m : Mem} {κ : Kont α} (h : (opIndex E t x ix p m κ).holds L) :
    ∃ v, (κ v p m).holds L ∧ ∀ (m : Mem) w0 R0 ρ w (xv iv : Value), Rep (RO w0 R0 ρ w m) ρ m.next w x xv → Rep (RO w0 R0 ρ w m) ρ m.next w ix iv → Plainly P m v (Instr.index t xv iv) w0 R0 ρ w := by
  unfold opIndex at h
  split at h
  · rename_i k i
    split at h
    · rename_i sz by_ ze ty eg he hrow
      have hok := hE.row _ _ hrow
      have hu : P.underlying t = some .string := hok.und
      split at h
      · rename_i s
        obtain ⟨hb, h⟩ := h
        simp only [Bool.and_eq_true, decide_eq_true_eq] at hb
        refine ⟨_, h, fun m w0 R0 ρ w xv iv hx hi => ?_⟩
        rw [show iv = _ from hi, show xv = _ from hx]
        refine ⟨_, ?_, rfl⟩
        have hlt : i.toNat < s.length := by omega
        have hg : (⟨⟨s⟩⟩ : ByteArray)[i.toNat]? = some (s[i.toNat]'hlt) := by
          have : i.toNat < (⟨⟨s⟩⟩ : ByteArray).size := by simpa [ByteArray.size] using hlt
          rw [getElem?_pos (⟨⟨s⟩⟩ : ByteArray) i.toNat this]
          rfl
        simp only [Instr.index, asIntOf, Sem.run_bind, run_underlying hu, Result.andThen_ok, Sem.run_pure, hb.1, if_true, hg]
        simp [hlt]
      · exact h.elim
    · rename_i n e sz by_ ze ty eg he hrow
      have hok := hE.row _ _ hrow
      have hu : P.underlying t = some (.array n e) := hok.und
      split at h
      · rename_i cs
        split at h
        · rename_i r hr
          have hok' := hE.row _ _ hr
          obtain ⟨hb, h⟩ := h
          simp only [Bool.and_eq_true, decide_eq_true_eq] at hb
          obtain ⟨v, h1, h2⟩ := loadCells_holds h
          refine ⟨v, h2, fun m w0 R0 ρ w xv iv hx hi => ?_⟩
          rw [show iv = _ from hi]
          obtain ⟨vs, rfl, hvs⟩ := hx
          obtain ⟨u, h3, h4⟩ := run_partOf hok' hvs h1
          refine ⟨u, ?_, h4⟩
          simp only [Instr.index, asIntOf, Sem.run_bind, run_underlying hu, Result.andThen_ok, Sem.run_pure, hb.1, hb.2, and_self, if_true, run_sizeOf' hok', h3, Sem.run_ite]
        · exact h.elim
      · exact h.elim
    · exact h.elim
  · exact h.elim

/-! ### Equality -/

theorem eqPart_loaded {t : TypeId} {cs : List SV} {off : Nat} {v : SV} (h : eqIn.part E t cs off = some v) : ∃ r, E.row t = some r ∧ loaded r cs off = some v := by
  unfold eqIn.part at h
  split at h
  · rename_i r hr
    refine ⟨r, hr, ?_⟩
    unfold loaded
    split at h
    · rename_i ha
      rw [ha]
      dsimp only
      split at h
      · rename_i hk; rw [if_pos (.inr hk)]; exact h
      · cases h
    · rename_i ha
      rw [show r.isAgg = false by simpa using ha]
      dsimp only
      rw [nth_eq] at h; exact h
  · cases h

theorem list_forIn_eq {β σ : Type} (xs : Array β) (init : σ) (f : β → σ → Sem (ForInStep σ)) : forIn xs init f = forIn xs.toList init f := by
  simp

theorem eqIn_sound (hE : EOK P E) : ∀ (d : Nat) (t : TypeId) (x y : SV) (b : Bool), eqIn E d t x y = some b → ∀ (D : Nat), d ≤ D → ∀ {R : Nat → Prop} {ρ : Rho} {n : Nat} {w : World} {xv yv : Value}, Rep R ρ n w x xv → Rep R ρ n w y yv →
    (Op.equalIn D t xv yv).run P w = .ok b w := by
  intro d
  induction d with
  | zero => intro t x y b h; unfold eqIn at h; cases h
  | succ d ih =>
    intro t x y b h D hD
    obtain ⟨D, rfl⟩ : ∃ D', D = D' + 1 := ⟨D - 1, by omega⟩
    have hdD : d ≤ D := by omega
    intro R ρ n w xv yv hx hy
    unfold eqIn at h
    split at h
    · rename_i sz by_ ze ty eg he hrow
      have hu := (hE.row _ _ hrow).und
      dsimp only at hu
      split at h
      · rename_i a b'
        injection h with h
        rw [show xv = _ from hx, show yv = _ from hy]
        simp only [Op.equalIn, Sem.run_bind, run_underlying hu, Result.andThen_ok, Sem.run_pure, h]
      · cases h
    · rename_i k sz by_ ze ty eg he hrow
      have hu := (hE.row _ _ hrow).und
      dsimp only at hu
      split at h
      · rename_i k1 a k2 b'
        split at h
        · rename_i hk
          injection h with h
          subst hk
          rw [show xv = _ from hx, show yv = _ from hy]
          simp only [Op.equalIn, Sem.run_bind, run_underlying hu, Result.andThen_ok, Sem.run_pure, h, if_true]
        · cases h
      · cases h
    · rename_i sz by_ ze ty eg he hrow
      have hu := (hE.row _ _ hrow).und
      dsimp only at hu
      split at h
      · rename_i a b'
        injection h with h
        rw [show xv = _ from hx, show yv = _ from hy]
        rw [run_equalIn_string w D t _ _ hu, ← h, ByteArray.toList_eq, ByteArray.toList_eq]
      · cases h
    · rename_i fs sz by_ ze ty eg hrow
      have hok := hE.row _ _ hrow
      have hu : P.underlying t = some (.struct fs) := hok.und
      have hheld : P.stoodInHeld t = false := hok.held.symm
      split at h
      · rename_i xs ys
        obtain ⟨vx, rfl, hvx⟩ := hx
        obtain ⟨vy, rfl, hvy⟩ := hy
        have hfs : P.fieldsOf t = fs := by simp [Program.fieldsOf, hu]
        rw [run_equalIn_struct w D t ⟨vx⟩ ⟨vy⟩ (by rw [hfs]; exact hu) hheld, hfs]
        clear hu hrow hok hfs
        generalize fs.toList = l at h
        clear fs
        induction l generalizing b with
        | nil => simp only [eqIn.go] at h; injection h with h; rw [← h]; rfl
        | cons f l ihl =>
          simp only [eqIn.go] at h
          split at h
          · rename_i a b' ha hb
            split at h
            · rename_i u v hu hv
              split at h
              · cases h
              · rename_i hn
                injection h with h
                obtain ⟨r1, hr1, hl1⟩ := eqPart_loaded ha
                obtain ⟨r2, hr2, hl2⟩ := eqPart_loaded hb
                obtain ⟨p1, hp1, hq1⟩ := run_partOf (P := P) (hE.row _ _ hr1) hvx hl1
                obtain ⟨p2, hp2, hq2⟩ := run_partOf (P := P) (hE.row _ _ hr2) hvy hl2
                have he := ih _ _ _ _ hu D hdD hq1 hq2
                simp only [Op.eqFields, hn, ne_eq, not_false_eq_true, if_true, Sem.run_bind, hp1, hp2, Result.andThen_ok, he]
                cases u with
                | false => rw [← h]; rfl
                | true =>
                  simp only [Bool.not_true, Bool.false_eq_true, if_false]
                  rw [Bool.true_and] at h
                  subst h
                  exact ihl _ hv
            · cases h
          · cases h
      · cases h
    · rename_i n0 e sz by_ ze ty eg he hrow
      have hok := hE.row _ _ hrow
      have hu : P.underlying t = some (.array n0 e) := hok.und
      split at h
      · rename_i xs ys r hr
        have hok' := hE.row _ _ hr
        obtain ⟨vx, rfl, hvx⟩ := hx
        obtain ⟨vy, rfl, hvy⟩ := hy
        simp only [Op.equalIn, Sem.run_bind, run_underlying hu, Result.andThen_ok, run_sizeOf' hok', Std.Legacy.Range.forIn_eq_forIn_range', Std.Legacy.Range.size, Nat.sub_zero, Nat.add_sub_cancel, Nat.div_one]
        clear hu hrow hok
        have key : ∀ (k i : Nat) (b : Bool), eqIn.goN E (eqIn E d) e r xs ys k i = some b →
            ((forIn (List.range' i k 1) ((none, ()) : Option Bool × Unit) fun i _ => do
              if (!(← Op.equalIn D e (← Go.part e ⟨vx⟩ (i * r.size)) (← Go.part e ⟨vy⟩ (i * r.size)))) = true then pure (ForInStep.done (some false, ())) else pure (ForInStep.yield (none, ()))) : Sem _).run P w
              = .ok (if b then (none, ()) else (some false, ())) w := by
          intro k
          induction k with
          | zero => intro i b hb; unfold eqIn.goN at hb; injection hb with hb; subst hb; rfl
          | succ k ihk =>
            intro i b hb
            unfold eqIn.goN at hb
            split at hb
            · rename_i a b' ha hb'
              split at hb
              · rename_i u v hu hv
                injection hb with hb
                obtain ⟨r1, hr1, hl1⟩ := eqPart_loaded ha
                obtain ⟨r2, hr2, hl2⟩ := eqPart_loaded hb'
                obtain ⟨p1, hp1, hq1⟩ := run_partOf (P := P) (hE.row _ _ hr1) hvx hl1
                obtain ⟨p2, hp2, hq2⟩ := run_partOf (P := P) (hE.row _ _ hr2) hvy hl2
                have he := ih _ _ _ _ hu D hdD hq1 hq2
                simp only [List.range'_succ, List.forIn_cons, Sem.run_bind, hp1, hp2, Result.andThen_ok, he]
                cases u with
                | false => rw [← hb]; rfl
                | true =>
                  simp only [Bool.not_true, Bool.false_eq_true, if_false, Sem.run_pure, Result.andThen_ok]
                  rw [Bool.true_and] at hb
                  subst hb
                  exact ihk (i + 1) _ hv
              · cases hb
            · cases hb
        have hk := key n0 0 b h
        rw [hk]
        cases b <;> rfl
      · cases h
    · cases h
end
end Go.Sx
set_option linter.unusedSimpArgs false
set_option linter.unusedVariables false
namespace Go.Sx
open Go.RowKit
section
variable {P : Program} {E : Env} {α : Type} {L : α → Prop}

theorem intOp_run {op : BinOp} {k : IntKind} {a b : Int} {v : SV} (h : intOp op k a b = some v) (t : TypeId) (w : World) : ∃ u, (Go.binOp op t (.int k a) (.int k b)).run P w = .ok u w ∧ ∀ R ρ n, Rep R ρ n w v u := by
  cases op <;> simp only [intOp, Option.some.injEq] at h <;> first
    | (cases h; done)
    | (subst h; exact ⟨_, by simp [Go.binOp, Op.intArith, Op.intBits, Op.intCmp], fun _ _ _ => rfl⟩)

theorem toList_mk' (l : List UInt8) : (ByteArray.mk ⟨l⟩).toList = l := ByteArray.toList_eq _

theorem strOp_run {op : BinOp} {a b : List UInt8} {v : SV} (h : strOp op a b = some v) (t : TypeId) (w : World) : ∃ u, (Go.binOp op t (.string ⟨⟨a⟩⟩) (.string ⟨⟨b⟩⟩)).run P w = .ok u w ∧ ∀ R ρ n, Rep R ρ n w v u := by
  cases op <;> simp only [strOp, Option.some.injEq] at h <;> first
    | (cases h; done)
    | (subst h; exact ⟨_, by simp [Go.binOp, Op.stringOp, toList_mk'], fun _ _ _ => rfl⟩)

theorem eqIn_shape {d : Nat} {t : TypeId} {x y : SV} {b : Bool} (h : eqIn E d t x y = some b) : (∃ k a k' c, x = .int k a ∧ y = .int k' c) ∨ (∃ a c, x = .str a ∧ y = .str c) ∨ (∃ a c, x = .bool a ∧ y = .bool c) ∨ (∃ a c, x = .agg a ∧ y = .agg c) := by
  cases d with
  | zero => unfold eqIn at h; cases h
  | succ d =>
    unfold eqIn at h
    split at h
    · split at h
      · exact .inr (.inr (.inl ⟨_, _, rfl, rfl⟩))
      · cases h
    · split at h
      · exact .inl ⟨_, _, _, _, rfl, rfl⟩
      · cases h
    · split at h
      · exact .inr (.inl ⟨_, _, rfl, rfl⟩)
      · cases h
    · split at h
      · exact .inr (.inr (.inr ⟨_, _, rfl, rfl⟩))
      · cases h
    · split at h
      · exact .inr (.inr (.inr ⟨_, _, rfl, rfl⟩))
      · cases h
    · cases h

theorem run_equal_nil {t e : TypeId} (hu : P.underlying t = some (.slice e)) (a : Option Addr) (l c l' c' : Nat) (w : World) : (Op.equal t (.slice a l c) (.slice none l' c')).run P w = .ok a.isNone w := by
  have key : ∀ d, (Op.equalIn (d + 1) t (.slice a l c) (.slice none l' c')).run P w = .ok a.isNone w := fun d => by
    simp only [Op.equalIn, Sem.run_bind, run_underlying hu, Result.andThen_ok]
    cases a <;> rfl
  exact key 9999

theorem opBin_sound (hE : EOK P E) {op : BinOp} {t : TypeId} {x y : SV} {p : Plan} {m : Mem} {κ : Kont α} (h : (opBin E op t x y p m κ).holds L) :
    ∃ v, (κ v p m).holds L ∧ ∀ (m : Mem) w0 R0 ρ w (xv yv : Value) (xo yo : Operand), Rep (RO w0 R0 ρ w m) ρ m.next w x xv → Rep (RO w0 R0 ρ w m) ρ m.next w y yv → Plainly P m v (do eqGuard op t xo yo xv yv; Go.binOp op t xv yv) w0 R0 ρ w := by
  unfold opBin at h
  split at h
  · rename_i k a k' b
    split at h
    · obtain ⟨hb, h⟩ := h
      refine ⟨_, h, fun m w0 R0 ρ w xv yv xo yo hx hy => ?_⟩
      rw [show xv = _ from hx, show yv = _ from hy]
      have hb' : ¬ b < 0 := by have := of_decide_eq_true hb; omega
      exact ⟨_, by simp [eqGuard_at_int, Go.binOp, Op.shift, hb'], rfl⟩
    · obtain ⟨hb, h⟩ := h
      refine ⟨_, h, fun m w0 R0 ρ w xv yv xo yo hx hy => ?_⟩
      rw [show xv = _ from hx, show yv = _ from hy]
      have hb' : ¬ b < 0 := by have := of_decide_eq_true hb; omega
      exact ⟨_, by simp [eqGuard_at_int, Go.binOp, Op.shift, hb'], rfl⟩
    · split at h
      · rename_i hk
        subst hk
        split at h
        · obtain ⟨hb, h⟩ := h
          refine ⟨_, h, fun m w0 R0 ρ w xv yv xo yo hx hy => ?_⟩
          rw [show xv = _ from hx, show yv = _ from hy]
          have hb' : ¬ b = 0 := by simpa using hb
          exact ⟨_, by simp [eqGuard_at_int, Go.binOp, Op.intDiv, hb'], rfl⟩
        · obtain ⟨hb, h⟩ := h
          refine ⟨_, h, fun m w0 R0 ρ w xv yv xo yo hx hy => ?_⟩
          rw [show xv = _ from hx, show yv = _ from hy]
          have hb' : ¬ b = 0 := by simpa using hb
          exact ⟨_, by simp [eqGuard_at_int, Go.binOp, Op.intDiv, hb'], rfl⟩
        · split at h
          · rename_i v hv
            refine ⟨v, h, fun m w0 R0 ρ w xv yv xo yo hx hy => ?_⟩
            rw [show xv = _ from hx, show yv = _ from hy]
            obtain ⟨u, h1, h2⟩ := intOp_run (P := P) hv t w
            exact ⟨u, by simp only [eqGuard_at_int, pure_bind, h1], h2 _ _ _⟩
          · exact h.elim
      · exact h.elim
  · rename_i a b
    split at h
    · obtain ⟨hb, h⟩ := h
      refine ⟨_, h, fun m w0 R0 ρ w xv yv xo yo hx hy => ?_⟩
      rw [show xv = _ from hx, show yv = _ from hy]
      have hb' : ¬ (9223372036854775807 : Int) < ((a.length + b.length : Nat) : Int) := by have := of_decide_eq_true hb; omega
      refine ⟨.string ⟨⟨a ++ b⟩⟩, ?_, rfl⟩
      simp only [eqGuard_at_string, pure_bind, Go.binOp, Op.stringOp]
      have hs : ∀ l : List UInt8, (ByteArray.mk ⟨l⟩).size = l.length := fun l => rfl
      rw [hs, hs, if_neg (by rw [IntKind.max_i64]; exact hb')]
      simp only [Sem.run_pure, Result.ok.injEq, and_true, Value.string.injEq]
      apply ByteArray.ext
      simp
    · split at h
      · rename_i v hv
        refine ⟨v, h, fun m w0 R0 ρ w xv yv xo yo hx hy => ?_⟩
        rw [show xv = _ from hx, show yv = _ from hy]
        obtain ⟨u, h1, h2⟩ := strOp_run (P := P) hv t w
        exact ⟨u, by simp only [eqGuard_at_string, pure_bind, h1], h2 _ _ _⟩
      · exact h.elim
  · rename_i hni hns
    have key : ∀ (b : Bool) (op : BinOp), (op = .eql ∨ op = .neq) → (∃ r, E.row t = some r ∧ r.eqg = false) → eqIn E 100 t x y = some b → ∀ (m : Mem) w0 R0 ρ w (xv yv : Value) (xo yo : Operand), Rep (RO w0 R0 ρ w m) ρ m.next w x xv → Rep (RO w0 R0 ρ w m) ρ m.next w y yv →
        (do eqGuard op t xo yo xv yv; Go.binOp op t xv yv).run P w = .ok (.bool (if op = .eql then b else !b)) w := by
      intro b op hop ⟨r, hr, hg⟩ he m w0 R0 ρ w xv yv xo yo hx hy
      have hok := hE.row _ _ hr
      have hq := eqIn_sound (P := P) hE 100 t x y b he 10000 (by omega) hx hy
      rcases eqIn_shape he with ⟨k, a, k', c, rfl, rfl⟩ | ⟨a, c, rfl, rfl⟩ | ⟨a, c, rfl, rfl⟩ | ⟨a, c, rfl, rfl⟩
      · exact (hni _ _ _ _ rfl rfl).elim
      · exact (hns _ _ rfl rfl).elim
      · rw [show xv = _ from hx, show yv = _ from hy] at hq ⊢
        rcases hop with rfl | rfl
        · simp [eqGuard_at_bool, Go.binOp, Op.equal, Op.maxDepth, hq]
        · simp [eqGuard_at_bool, Go.binOp, Op.equal, Op.maxDepth, hq]
      · obtain ⟨vx, rfl, _⟩ := hx
        obtain ⟨vy, rfl, _⟩ := hy
        have hm : P.eqGuardType P.depth t = false := by rw [← hok.eqg]; exact hg
        rcases hop with rfl | rfl
        · simp only [Sem.run_bind, run_eqGuard_agg w _ t xo yo _ _ hm, Result.andThen_ok, run_eql_struct, hq]; rfl
        · simp only [Sem.run_bind, run_eqGuard_agg w _ t xo yo _ _ hm, Result.andThen_ok, run_neq_struct, hq]; rfl
    split at h
    · rename_i rb hnt
      split at h <;> try exact h.elim
      rename_i e sz by_ ze ty eg he hrow
      have hok := hE.row _ _ hrow
      have hu : P.underlying t = some (.slice e) := hok.und
      have kn : rb.1 = true → ∀ (m : Mem) w0 R0 ρ w (xv yv : Value) (xo yo : Operand), Rep (RO w0 R0 ρ w m) ρ m.next w x xv → Rep (RO w0 R0 ρ w m) ρ m.next w y yv → (∃ a l c l' c', xv = .slice a l c ∧ yv = .slice none l' c') ∧ (Op.equal t xv yv).run P w = .ok rb.2 w := by
        intro hr m w0 R0 ρ w xv yv xo yo hx hy
        unfold nilTest at hnt
        split at hnt
        · injection hnt with hnt; subst hnt
          rw [show xv = _ from hx, show yv = _ from hy]
          exact ⟨⟨_, _, _, _, _, rfl, rfl⟩, run_equal_nil hu _ _ _ _ _ w⟩
        · rename_i u l
          injection hnt with hnt; subst hnt
          obtain ⟨a, cap, hxv, _, hel⟩ := hx
          injection hxv with hxv
          rw [hxv, show yv = _ from hy]
          have hne : 0 < List.length l := by
            cases l with
            | nil => cases hr
            | cons _ _ => simp
          obtain ⟨b, o, rfl, _⟩ := hel hne
          exact ⟨⟨_, _, _, _, _, rfl, rfl⟩, run_equal_nil hu _ _ _ _ _ w⟩
        · injection hnt with hnt; subst hnt
          rw [show xv = _ from hx.2, show yv = _ from hy]
          exact ⟨⟨_, _, _, _, _, rfl, rfl⟩, run_equal_nil hu _ _ _ _ _ w⟩
        · split at hnt
          · injection hnt with hnt; subst hnt
            rw [show xv = _ from hx, show yv = _ from hy]
            exact ⟨⟨_, _, _, _, _, rfl, rfl⟩, run_equal_nil hu _ _ _ _ _ w⟩
          · injection hnt with hnt; subst hnt
            rw [show xv = _ from hx, show yv = _ from hy]
            exact ⟨⟨_, _, _, _, _, rfl, rfl⟩, run_equal_nil hu _ _ _ _ _ w⟩
          · cases hnt
        · cases hnt
      split at h <;> try exact h.elim
      · obtain ⟨hr, h⟩ := h
        refine ⟨_, h, fun m w0 R0 ρ w xv yv xo yo hx hy => ?_⟩
        obtain ⟨⟨a, l, c, l', c', rfl, rfl⟩, h2⟩ := kn hr m w0 R0 ρ w xv yv xo yo hx hy
        exact ⟨_, by simp only [eqGuard, Go.binOp, Sem.run_bind, Sem.run_pure, Result.andThen_ok, h2, pure_bind, Bool.not_true, Bool.false_eq_true, if_false], rfl⟩
      · obtain ⟨hr, h⟩ := h
        refine ⟨_, h, fun m w0 R0 ρ w xv yv xo yo hx hy => ?_⟩
        obtain ⟨⟨a, l, c, l', c', rfl, rfl⟩, h2⟩ := kn hr m w0 R0 ρ w xv yv xo yo hx hy
        exact ⟨_, by simp only [eqGuard, Go.binOp, Sem.run_bind, Sem.run_pure, Result.andThen_ok, h2, pure_bind, Bool.not_true, Bool.false_eq_true, if_false], rfl⟩
    split at h
    · rename_i de sz by_ ze ty he hrow
      split at h
      · split at h
        · rename_i b hb
          exact ⟨_, h, fun m w0 R0 ρ w xv yv xo yo hx hy => ⟨_, key b .eql (.inl rfl) ⟨_, hrow, rfl⟩ hb m w0 R0 ρ w xv yv xo yo hx hy, rfl⟩⟩
        · exact h.elim
      · split at h
        · rename_i b hb
          exact ⟨_, h, fun m w0 R0 ρ w xv yv xo yo hx hy => ⟨_, key b .neq (.inr rfl) ⟨_, hrow, rfl⟩ hb m w0 R0 ρ w xv yv xo yo hx hy, rfl⟩⟩
        · exact h.elim
      · exact h.elim
    · exact h.elim

theorem opUn_sound {op : UnOp} {x : SV} {p : Plan} {m : Mem} {κ : Kont α} (h : (opUn op x p m κ).holds L) :
    ∃ v, (κ v p m).holds L ∧ ∀ (m : Mem) w0 R0 ρ w (xv : Value), Rep (RO w0 R0 ρ w m) ρ m.next w x xv → Plainly P m v (Op.unary op xv) w0 R0 ρ w := by
  unfold opUn at h
  split at h
  · exact ⟨_, h, fun m w0 R0 ρ w xv hx => by rw [show xv = _ from hx]; exact ⟨_, rfl, rfl⟩⟩
  · exact ⟨_, h, fun m w0 R0 ρ w xv hx => by rw [show xv = _ from hx]; exact ⟨_, rfl, rfl⟩⟩
  · exact ⟨_, h, fun m w0 R0 ρ w xv hx => by rw [show xv = _ from hx]; exact ⟨_, rfl, rfl⟩⟩
  · exact h.elim

/-! ### Rows of data -/

def RepDL (R : Nat → Prop) (w : World) (t : Ty) : List t.T → List Value → Prop
  | [], vs => vs = []
  | x :: xs, vs => ∃ v1 v2, vs = v1 ++ v2 ∧ RepD R w t x v1 ∧ RepDL R w t xs v2

theorem RepDL.append {R : Nat → Prop} {w : World} {t : Ty} : ∀ {xs ys : List t.T} {us vs : List Value}, RepDL R w t xs us → RepDL R w t ys vs → RepDL R w t (xs ++ ys) (us ++ vs)
  | [], _, us, vs, h, k => by rw [show us = [] from h]; exact k
  | x :: xs, ys, us, vs, h, k => by
    obtain ⟨v1, v2, rfl, h1, h2⟩ := h
    exact ⟨v1, v2 ++ vs, by simp, h1, RepDL.append h2 k⟩
theorem RepDL.length {R : Nat → Prop} {w : World} {t : Ty} : ∀ {xs : List t.T} {us : List Value}, RepDL R w t xs us → us.length = xs.length * t.sz
  | [], us, h => by rw [show us = [] from h]; simp
  | x :: xs, us, h => by
    obtain ⟨v1, v2, rfl, h1, h2⟩ := h
    rw [List.length_append, (RepD.flat (ρ := fun _ => (0, 0, 0)) (n := 0) t x v1 h1).1, RepDL.length h2, List.length_cons, Nat.succ_mul, Nat.add_comm]
theorem RepDL.mono {R R' : Nat → Prop} {w w' : World} (hk : ∀ b, R b → R' b ∧ w'.heap[b]? = w.heap[b]?) {t : Ty} : ∀ {xs : List t.T} {us : List Value}, RepDL R w t xs us → RepDL R' w' t xs us
  | [], _, h => h
  | x :: xs, us, h => by
    obtain ⟨v1, v2, rfl, h1, h2⟩ := h
    exact ⟨v1, v2, rfl, RepD.mono hk t _ _ h1, RepDL.mono hk h2⟩

/-- Element by element. -/
def Elems (R : Nat → Prop) (w : World) (t : Ty) (l : List t.T) (g : Nat → Option Value) : Prop :=
  ∀ i (h : i < l.length), ∃ cs : List Value, cs.length = t.sz ∧ (∀ j, j < t.sz → g (i * t.sz + j) = cs[j]?) ∧ RepD R w t l[i] cs

theorem RepDL.elems {R : Nat → Prop} {w : World} {t : Ty} : ∀ {xs : List t.T} {us : List Value}, RepDL R w t xs us → Elems R w t xs fun k => us[k]?
  | [], _, _, i, hi => absurd hi (Nat.not_lt_zero _)
  | x :: xs, us, h, 0, hi => by
    obtain ⟨v1, v2, rfl, h1, h2⟩ := h
    have hl := (RepD.flat (ρ := fun _ => (0, 0, 0)) (n := 0) t x v1 h1).1
    exact ⟨v1, hl, fun j hj => by simp only [Nat.zero_mul, Nat.zero_add]; rw [List.getElem?_append_left (by omega)], h1⟩
  | x :: xs, us, h, i + 1, hi => by
    obtain ⟨v1, v2, rfl, h1, h2⟩ := h
    have hl := (RepD.flat (ρ := fun _ => (0, 0, 0)) (n := 0) t x v1 h1).1
    obtain ⟨cs, k1, k2, k3⟩ := RepDL.elems h2 i (by simpa using hi)
    refine ⟨cs, k1, fun j hj => ?_, by simpa using k3⟩
    rw [← k2 j hj]
    dsimp only
    rw [List.getElem?_append_right (by rw [Nat.succ_mul]; omega)]
    congr 1
    rw [Nat.succ_mul]; omega

theorem Elems.repDL {R : Nat → Prop} {w : World} {t : Ty} : ∀ {xs : List t.T} {us : List Value}, us.length = xs.length * t.sz → Elems R w t xs (fun k => us[k]?) → RepDL R w t xs us
  | [], us, hl, _ => List.eq_nil_of_length_eq_zero (by simpa using hl)
  | x :: xs, us, hl, h => by
    rw [List.length_cons, Nat.succ_mul] at hl
    obtain ⟨cs, k1, k2, k3⟩ := h 0 (by simp)
    have hcs : us.take t.sz = cs := by
      apply List.ext_getElem?
      intro j
      by_cases hj : j < t.sz
      · rw [List.getElem?_take, if_pos hj]
        have := k2 j hj
        simpa using this
      · rw [List.getElem?_take, if_neg hj, List.getElem?_eq_none (by omega)]
    refine ⟨us.take t.sz, us.drop t.sz, (List.take_append_drop _ _).symm, by rw [hcs]; exact k3, Elems.repDL (by rw [List.length_drop]; omega) fun i hi => ?_⟩
    obtain ⟨ds, d1, d2, d3⟩ := h (i + 1) (by simpa using hi)
    refine ⟨ds, d1, fun j hj => ?_, by simpa using d3⟩
    rw [← d2 j hj]
    dsimp only
    rw [List.getElem?_drop]
    congr 1
    rw [Nat.succ_mul]; omega

theorem unflatN_repDL {R : Nat → Prop} {ρ : Rho} {n : Nat} {w : World} {t : Ty} : ∀ {k : Nat} {cs : List SV} {l : List t.T} {vs : List Value}, unflatN t k cs = some l → RepL R ρ n w cs vs → RepDL R w t l vs ∧ l.length = k
  | 0, cs, l, vs, h, hr => by
    cases cs with
    | nil => simp only [unflatN] at h; injection h with h; subst h; exact ⟨hr, rfl⟩
    | cons c cs => simp [unflatN] at h
  | k + 1, cs, l, vs, h, hr => by
    simp only [unflatN] at h
    cases h1 : unflat t cs with
    | none => rw [h1] at h; cases h
    | some q =>
      obtain ⟨x, cs1⟩ := q
      rw [h1] at h
      dsimp only at h
      cases h2 : unflatN t k cs1 with
      | none => rw [h2] at h; cases h
      | some l' =>
        rw [h2] at h
        injection h with h
        subst h
        obtain ⟨v1, v2, rfl, _, r1, r2⟩ := RepD.unflat t cs x cs1 vs h1 hr
        obtain ⟨r3, r4⟩ := unflatN_repDL h2 r2
        exact ⟨⟨v1, v2, rfl, r1, r3⟩, by simp [r4]⟩

theorem bytes_repDL {R : Nat → Prop} {w : World} : ∀ (s : List UInt8), RepDL R w (.int .u8) (s.map fun b => (b.toNat : Int) : List Int) (s.map fun b => Value.int .u8 b.toNat)
  | [] => rfl
  | b :: s => ⟨[_], _, rfl, rfl, bytes_repDL s⟩

/-- A box of rows: what its block begins with. -/
theorem rows_repDL {w0 : World} {R0 : Nat → Prop} {ρ : Rho} {w : World} {m : Mem} (hm : MRel w0 R0 ρ w m) {id : Nat} {u : Ty} {l : List u.T} (h : m.get id = some (.rows u l)) (hc : 0 < (ρ id).2.2) :
    ∃ arr e fr, w.heap[(ρ id).1]? = some (.cells arr e fr) ∧ unfrozen arr fr ∧ arr.size = (ρ id).2.2 * u.sz ∧ RepDL (RO w0 R0 ρ w m) w u l (arr.toList.take (l.length * u.sz)) := by
  obtain ⟨b1, b2, hp⟩ := hm.box id _ h
  obtain ⟨arr, e, fr, h1, h2, h3, h4⟩ := hp hc
  have hle : l.length * u.sz ≤ arr.size := by rw [h3]; exact Nat.mul_le_mul_right _ b2
  refine ⟨arr, e, fr, h1, h2, h3, Elems.repDL (by rw [List.length_take]; simp; omega) fun i hi => ?_⟩
  obtain ⟨cs, k1, k2, k3⟩ := h4 i hi
  refine ⟨cs, k1, fun j hj => ?_, k3⟩
  have : i * u.sz + j < l.length * u.sz := by
    have : (i + 1) * u.sz ≤ l.length * u.sz := Nat.mul_le_mul_right _ hi
    rw [Nat.succ_mul] at this; omega
  dsimp only
  rw [List.getElem?_take, if_pos this, ← k2 j hj]
  simp

theorem boxRows_of {R : Nat → Prop} {ρ : Rho} {n : Nat} {w : World} {r : Nat × Nat × Nat} {u : Ty} {l : List u.T} {arr : Array Value} {e : TypeId} {fr : Nat × Nat} {vs rest : List Value} (h0 : l.length = r.2.1) (h0' : l.length ≤ r.2.2)
    (h1 : w.heap[r.1]? = some (.cells arr e fr)) (h2 : unfrozen arr fr) (h3 : arr.size = r.2.2 * u.sz) (h4 : arr.toList = vs ++ rest) (h5 : RepDL R w u l vs) : BoxRel R ρ n w r (.rows u l) := by
  refine ⟨h0, h0', fun _ => ⟨arr, e, fr, h1, h2, h3, fun i hi => ?_⟩⟩
  obtain ⟨cs, k1, k2, k3⟩ := h5.elems i hi
  refine ⟨cs, k1, fun j hj => ?_, k3⟩
  rw [← k2 j hj, ← Array.getElem?_toList, h4]
  have : i * u.sz + j < vs.length := by
    rw [h5.length]
    have : (i + 1) * u.sz ≤ l.length * u.sz := Nat.mul_le_mul_right _ hi
    rw [Nat.succ_mul] at this; omega
  rw [List.getElem?_append_left this]

theorem unfrozen_zero (arr : Array Value) : unfrozen arr (0, 0) := fun i _ h => absurd h.2 (Nat.not_lt_zero _)
end
end Go.Sx
set_option linter.unusedSimpArgs false
set_option linter.unusedVariables false
namespace Go.Sx
open Go.RowKit
section
variable {P : Program} {E : Env} {α : Type} {L : α → Prop}

/-- An operation that may turn the world. -/
abbrev Yields' (P : Program) (m : Mem) (v : SV) (m' : Mem) (s : Sem Value) (w0 : World) (R0 : Nat → Prop) (ρ : Rho) (w : World) : Prop :=
  ∃ u w', s.run P w = .ok u w' ∧ OpOut w0 R0 ρ w m v m' u w'

theorem Plainly.yields {m : Mem} {v : SV} {s : Sem Value} {w0 : World} {R0 : Nat → Prop} {ρ : Rho} {w : World} (h : Plainly P m v s w0 R0 ρ w) (hm : MRel w0 R0 ρ w m) : Yields' P m v m s w0 R0 ρ w :=
  let ⟨u, h1, h2⟩ := h
  ⟨u, w, h1, OpOut.same hm h2⟩

/-! ### Where the elements of a slice lie -/

/-- The cells of a source of append. -/
theorem elemsOf_cells {u : Ty} {m : Mem} {x : SV} {xs : List u.T} (h : elemsOf u m x = some xs) {w0 : World} {R0 : Nat → Prop} {ρ : Rho} {w : World} {xv : Value} (hm : MRel w0 R0 ρ w m) (hx : Rep (RO w0 R0 ρ w m) ρ m.next w x xv) :
    ∃ vs, (Builtin.lenOf xv).run P w = .ok xs.length w ∧ (Builtin.firstCells u.sz xs.length xv).run P w = .ok ⟨vs⟩ w ∧ RepDL (RO w0 R0 ρ w m) w u xs vs := by
  have hsz : ∀ (t : Ty) (l : List t.T) (b o : Nat), Elems (RO w0 R0 ρ w m) w t l (fun k => w.cell? ⟨b, o + k, none⟩) → ∃ vs : List Value, (Go.loadCells ⟨b, o, none⟩ (l.length * t.sz)).run P w = .ok ⟨vs⟩ w ∧ RepDL (RO w0 R0 ρ w m) w t l vs := by
    intro t l b o hel
    have hcell : ∀ k, k < l.length * t.sz → ∃ v, w.cell? ⟨b, o + k, none⟩ = some v := by
      intro k hk
      have hpos : 0 < t.sz := by
        rcases Nat.eq_zero_or_pos t.sz with h0 | h0
        · rw [h0] at hk; omega
        · exact h0
      have hdm := Nat.div_add_mod k t.sz
      have hmod := Nat.mod_lt k hpos
      have hi : k / t.sz < l.length := Nat.div_lt_of_lt_mul (by rwa [Nat.mul_comm])
      obtain ⟨cs, c1, c2, _⟩ := hel (k / t.sz) hi
      have := c2 (k % t.sz) hmod
      dsimp only at this
      rw [show k / t.sz * t.sz + k % t.sz = k by rw [Nat.mul_comm]; exact hdm] at this
      rw [this, List.getElem?_eq_getElem (by omega)]
      exact ⟨_, rfl⟩
    obtain ⟨f, hf⟩ : ∃ f : Nat → Value, ∀ k, k < l.length * t.sz → w.cell? ⟨b, o + k, none⟩ = some (f k) :=
      ⟨fun k => if hk : k < l.length * t.sz then (hcell k hk).choose else default, fun k hk => by simp only [hk, dite_true]; exact (hcell k hk).choose_spec⟩
    refine ⟨(List.range (l.length * t.sz)).map f, run_loadCells w ⟨b, o, none⟩ _ f (fun j hj => by rw [Addr.add_lit]; exact hf j hj), Elems.repDL (by simp) fun i hi => ?_⟩
    obtain ⟨cs, c1, c2, c3⟩ := hel i hi
    refine ⟨cs, c1, fun j hj => ?_, c3⟩
    have : i * t.sz + j < l.length * t.sz := by
      have : (i + 1) * t.sz ≤ l.length * t.sz := Nat.mul_le_mul_right _ hi
      rw [Nat.succ_mul] at this; omega
    rw [← c2 j hj]
    dsimp only
    rw [hf _ this]
    simp [this]
  cases x <;> simp only [elemsOf] at h <;> try (cases h; done)
  case nilS =>
    injection h with h
    subst h
    rw [show xv = _ from hx]
    exact ⟨[], rfl, by simp [Builtin.firstCells], rfl⟩
  case list t l =>
    split at h
    · rename_i ht
      injection h with h
      subst ht
      dsimp only at h
      subst h
      obtain ⟨a, cap, hxv, hc, hel⟩ := hx
      injection hxv with hxv
      subst hxv
      rcases Nat.eq_zero_or_pos (List.length l) with h0 | h0
      · have : l = [] := List.eq_nil_of_length_eq_zero h0
        subst this
        refine ⟨[], rfl, ?_, rfl⟩
        cases a <;> simp [Builtin.firstCells, Go.loadCells, loadCellsFrom]
      · obtain ⟨b, o, rfl, hR, hall⟩ := hel h0
        obtain ⟨vs, h1, h2⟩ := hsz t l b o (fun i hi => hall i hi)
        exact ⟨vs, rfl, h1, h2⟩
    · cases h
  case row id =>
    split at h
    · rename_i t l hg
      split at h
      · rename_i ht
        injection h with h
        subst ht
        dsimp only at h
        subst h
        obtain ⟨hid, a, rfl, ha⟩ := hx
        obtain ⟨b1, b2, hp⟩ := hm.box id _ hg
        rcases Nat.eq_zero_or_pos (ρ id).2.2 with h0 | h0
        · have hl : l = [] := List.eq_nil_of_length_eq_zero (by omega)
          subst hl
          refine ⟨[], by rw [← b1]; rfl, ?_, rfl⟩
          cases a <;> simp [Builtin.firstCells, Go.loadCells, loadCellsFrom]
        · obtain rfl := ha h0
          obtain ⟨arr, e, fr, h1, h2, h3, h4⟩ := hp h0
          obtain ⟨vs, k1, k2⟩ := hsz t l (ρ id).1 0 (fun i hi => by
            obtain ⟨cs, c1, c2, c3⟩ := h4 i hi
            exact ⟨cs, c1, fun j hj => by dsimp only; rw [Nat.zero_add, cell_of_row w _ _ arr e fr h1]; exact c2 j hj, c3⟩)
          exact ⟨vs, by rw [← b1]; rfl, k1, k2⟩
      · cases h
    · cases h
  case arr id off n =>
    split at h
    · rename_i cs hg
      obtain ⟨hid, rfl⟩ := hx
      obtain ⟨arr, e, fr, h1, h2, h3⟩ := hm.box id _ hg
      have hr := (h3.drop off).take (n * u.sz)
      obtain ⟨hd, hl⟩ := unflatN_repDL h hr
      have hlen := hd.length
      rw [hl] at hlen ⊢
      refine ⟨(arr.toList.drop off).take (n * u.sz), rfl, ?_, hd⟩
      have := run_loadCells_list (P := P) w ⟨(ρ id).1, off, none⟩ ((arr.toList.drop off).take (n * u.sz)) (fun j v hj => by
        rw [Addr.add_lit, cell_of_row w _ _ arr e fr h1]
        have hjl : j < n * u.sz := by have := (List.getElem?_eq_some_iff.1 hj).1; omega
        rw [List.getElem?_take, if_pos hjl, List.getElem?_drop] at hj
        simpa using hj)
      rw [hlen] at this
      exact this
    · cases h
  case str s =>
    split at h
    · rename_i ht
      injection h with h
      subst ht
      dsimp only at h
      subst h
      rw [show xv = _ from hx]
      have hl : List.length (List.map (fun b : UInt8 => (b.toNat : Int)) s) = s.length := List.length_map _
      refine ⟨_, ?_, ?_, bytes_repDL s⟩
      · show Result.ok s.length w = Result.ok (List.length (List.map (fun b : UInt8 => (b.toNat : Int)) s)) w
        rw [hl]
      · show (Builtin.firstCells 1 (List.length (List.map (fun b : UInt8 => (b.toNat : Int)) s)) _).run P w = _
        rw [hl]
        simp only [Builtin.firstCells, Sem.run_pure, Result.ok.injEq, and_true]
        apply Array.ext'
        simp [Lib.extract_data]
    · cases h
  case raw v =>
    split at h
    · rename_i a cap
      injection h with h
      subst h
      rw [show xv = _ from hx]
      refine ⟨[], rfl, ?_, rfl⟩
      cases a with
      | none => simp [Builtin.firstCells, Go.loadCells]
      | some a =>
        simp [Builtin.firstCells, Go.loadCells]
        rfl
    · cases h

theorem bytesOf_cells {m : Mem} {x : SV} {s : List UInt8} (h : bytesOf m x = some s) {w0 : World} {R0 : Nat → Prop} {ρ : Rho} {w : World} {xv : Value} (hm : MRel w0 R0 ρ w m) (hx : Rep (RO w0 R0 ρ w m) ρ m.next w x xv) :
    (∃ a l c, xv = .slice a l c) ∧ (Conv.bytesToString xv).run P w = .ok (.string ⟨⟨s⟩⟩) w := by
  have key : ∀ (l : List Int) (vs : List Value), RepDL (RO w0 R0 ρ w m) w (.int .u8) l vs → vs = l.map (Value.int .u8) := by
    intro l
    induction l with
    | nil => intro vs h; exact h
    | cons n l ih =>
      intro vs h
      obtain ⟨v1, v2, rfl, h1, h2⟩ := h
      rw [show v1 = _ from h1, ih v2 h2]; rfl
  have fin : ∀ (ns : List Int) (a : Addr) (len cap : Nat) (vs : List Value), (Go.loadCells a len).run P w = .ok ⟨vs⟩ w → vs = ns.map (Value.int .u8) → (Conv.bytesToString (.slice (some a) len cap)).run P w = .ok (.string ⟨⟨ns.map fun n => UInt8.ofNat n.toNat⟩⟩) w := by
    intro ns a len cap vs h1 h2
    subst h2
    rw [run_bytesToString w a len cap ns h1, foldl_push_bytes]
    simp [ByteArray.empty, ByteArray.emptyWithCapacity]
    rfl
  cases x <;> simp only [bytesOf] at h <;> try (cases h; done)
  case nilS =>
    injection h with h
    subst h
    rw [show xv = _ from hx]
    exact ⟨⟨_, _, _, rfl⟩, rfl⟩
  case list t l =>
    cases t <;> try (cases h; done)
    case int k =>
      cases k <;> try (cases h; done)
      case u8 =>
        injection h with h
        have he : elemsOf (.int .u8) m (.list (.int .u8) l) = some l := by simp [elemsOf]
        obtain ⟨vs, h1, h2, h3⟩ := elemsOf_cells (P := P) he hm hx
        obtain ⟨a, cap, hxv, hc, hel⟩ := hx
        injection hxv with hxv
        subst hxv
        refine ⟨⟨_, _, _, rfl⟩, ?_⟩
        cases a with
        | none =>
          have : List.length (l : List Int) = 0 := by
            rcases Nat.eq_zero_or_pos (List.length (l : List Int)) with h0 | h0
            · exact h0
            · obtain ⟨b, o, hb, _⟩ := hel h0; cases hb
          have : (l : List Int) = [] := List.eq_nil_of_length_eq_zero this
          rw [← h, this]; rfl
        | some a =>
          rw [← h]
          exact fin _ _ _ _ _ (by simpa [Builtin.firstCells, Ty.sz] using h2) (key _ _ h3)
  case row id =>
    split at h
    · rename_i l hg
      injection h with h
      have he : elemsOf (.int .u8) m (.row id) = some l := by simp [elemsOf, hg]
      obtain ⟨vs, h1, h2, h3⟩ := elemsOf_cells (P := P) he hm hx
      obtain ⟨hid, a, rfl, ha⟩ := hx
      obtain ⟨b1, b2, hp⟩ := hm.box id _ hg
      refine ⟨⟨_, _, _, rfl⟩, ?_⟩
      cases a with
      | none =>
        have hc : ¬ 0 < (ρ id).2.2 := fun hc => by have := ha hc; cases this
        have : (l : List Int) = [] := List.eq_nil_of_length_eq_zero (by omega)
        rw [← h, this]; rfl
      | some a =>
        rw [← h]
        refine fin _ _ _ _ _ (by rw [← b1]; simpa [Builtin.firstCells, Ty.sz] using h2) (key _ _ h3)
    · cases h
  case arr id off n =>
    split at h
    · rename_i cs hg
      split at h
      · rename_i l hl
        injection h with h
        have he : elemsOf (.int .u8) m (.arr id off n) = some l := by simp only [elemsOf, hg]; exact hl
        have hln : List.length (l : List Int) = n := by
          obtain ⟨arr, e, fr, h1, h2, h3⟩ := hm.box id _ hg
          exact (unflatN_repDL hl ((h3.drop off).take (n * (Ty.int .u8).sz))).2
        obtain ⟨vs, h1, h2, h3⟩ := elemsOf_cells (P := P) he hm hx
        obtain ⟨hid, rfl⟩ := hx
        refine ⟨⟨_, _, _, rfl⟩, ?_⟩
        rw [← h]
        refine fin _ _ _ _ _ (by rw [← hln]; simpa [Builtin.firstCells, Ty.sz] using h2) (key _ _ h3)
      · cases h
    · cases h

/-- A new block of rows. -/
theorem push_rows {w0 : World} {R0 : Nat → Prop} {ρ : Rho} {w w1 : World} {m m' : Mem} {u : Ty} {l : List u.T} {arr : Array Value} {e : TypeId} {fr : Nat × Nat} {vs rest : List Value} {cap : Nat} (hm : MRel w0 R0 ρ w m) (hp : MPush m (.rows u l) m')
    (hos : w1.os = w.os) (ht : w1.tape = w.tape) (hpu : w1.output = w.output) (hsz : w1.heap.size = w.heap.size + 1) (hold : ∀ k, k < w.heap.size → w1.heap[k]? = w.heap[k]?) (hnew : w1.heap[w.heap.size]? = some (.cells arr e fr))
    (hu : unfrozen arr fr) (ha : arr.size = cap * u.sz) (hl : l.length ≤ cap) (hv : arr.toList = vs ++ rest) (hd : RepDL (RO w0 R0 ρ w m) w u l vs) :
    OpOut w0 R0 ρ w m (.row m.next) m' (.slice (some ⟨w.heap.size, 0, none⟩) l.length cap) w1 := by
  obtain ⟨h1, h2⟩ := hm.push (w' := w1) (r := (w.heap.size, l.length, cap)) hp hos ht hpu (by omega) hold (fun _ => ⟨Nat.le_refl _, by show w.heap.size < _; omega⟩)
    (fun R n ρ' e' => boxRows_of rfl hl hnew hu ha hv (RepDL.mono e'.keep hd))
  refine ⟨_, h1, h2, by rw [hp.2]; omega, _, by rw [upd_same], fun _ => by rw [upd_same]⟩

theorem opConv_sound (hE : EOK P E) {src dst : TypeId} {x : SV} {p : Plan} {m : Mem} {κ : Kont α} (h : (opConv E src dst x p m κ).holds L) :
    ∃ v m', (κ v p m').holds L ∧ ((∀ r e, E.row dst = some r → r.desc ≠ .slice e) → m' = m) ∧ ∀ w0 R0 ρ w (xv : Value), MRel w0 R0 ρ w m → Rep (RO w0 R0 ρ w m) ρ m.next w x xv → Yields' P m v m' (Go.convert src dst xv) w0 R0 ρ w := by
  unfold opConv at h
  split at h
  · rename_i rs rd hs hd
    have hus := (hE.row _ _ hs).und
    have hud := (hE.row _ _ hd).und
    split at h
    · rename_i k k' n hdd
      rw [hdd] at hud
      refine ⟨_, m, h, fun _ => rfl, fun w0 R0 ρ w xv hm hx => Plainly.yields ⟨_, ?_, rfl⟩ hm⟩
      rw [show xv = _ from hx]
      simp only [Go.convert, Sem.run_bind, run_underlying hus, run_underlying hud, Result.andThen_ok, Conv.intToInt, Sem.run_pure]
    · rename_i s hdd
      rw [hdd] at hud
      refine ⟨_, m, h, fun _ => rfl, fun w0 R0 ρ w xv hm hx => Plainly.yields ⟨_, ?_, rfl⟩ hm⟩
      rw [show xv = _ from hx]
      simp only [Go.convert, Sem.run_bind, run_underlying hus, run_underlying hud, Result.andThen_ok, Sem.run_pure]
    · rename_i e s hss hdd
      rw [hss] at hus
      rw [hdd] at hud
      split at h
      · rename_i sz by_ ze ty eg he hrow
        have hue := (hE.row _ _ hrow).und
        dsimp only at hue
        obtain ⟨m', h1, h2⟩ := Mem.push_holds h
        refine ⟨_, m', h2, fun hne => absurd hdd (hne _ _ hd), fun w0 R0 ρ w xv hm hx => ?_⟩
        rw [show xv = _ from hx]
        have hl : List.length (List.map (fun b : UInt8 => (b.toNat : Int)) s) = s.length := List.length_map _
        refine ⟨_, _, Lib.run_convert_string_bytes w src dst e ⟨⟨s⟩⟩ hus hud hue, ?_⟩
        have hcap : s.length ≤ grownCap w s.length 0 e := Nat.le_add_right _ _
        have key := push_rows (w1 := Lib.bytesWorld w e ⟨⟨s⟩⟩) (u := .int .u8) (l := List.map (fun b : UInt8 => (b.toNat : Int)) s) (cap := grownCap w s.length 0 e) (arr := Lib.bytesCells w e ⟨⟨s⟩⟩) (rest := (Array.replicate (grownCap w s.length 0 e - s.length) (.int .u8 0)).toList) hm h1 rfl rfl rfl (Lib.bytesWorld_size w e _) (fun k hk => Lib.bytesWorld_at_old w e _ k hk) (Lib.bytesWorld_at_new w e _)
          (fun i hi hh => by have := hh.1; dsimp only at this; omega) (by simp [Lib.bytesCells, Ty.sz, ByteArray.size]; omega) (by show List.length (List.map (fun b : UInt8 => (b.toNat : Int)) s) ≤ _; rw [hl]; exact hcap) (vs := s.map fun b => Value.int .u8 b.toNat)
          (by simp only [Lib.bytesCells, Array.toList_append, Array.toList_map]; rfl) (bytes_repDL s)
        have e2 : (Value.slice (some ⟨w.heap.size, 0, none⟩) (List.length (List.map (fun b : UInt8 => (b.toNat : Int)) s)) (grownCap w s.length 0 e)) = .slice (some ⟨w.heap.size, 0, none⟩) s.length (grownCap w s.length 0 e) := by rw [hl]
        exact e2 ▸ key
      · exact h.elim
    · rename_i e hss hdd _
      rw [hss] at hus
      rw [hdd] at hud
      split at h
      · rename_i sz by_ ze ty eg he hrow
        have hue := (hE.row _ _ hrow).und
        dsimp only at hue
        split at h
        · rename_i s hb
          refine ⟨_, m, h, fun _ => rfl, fun w0 R0 ρ w xv hm hx => Plainly.yields ⟨.string ⟨⟨s⟩⟩, ?_, rfl⟩ hm⟩
          obtain ⟨⟨a, l, c, rfl⟩, hrun⟩ := bytesOf_cells (P := P) hb hm hx
          rw [run_convert_bytes_string w src dst e a l c hus hue hud, hrun]
        · exact h.elim
      · exact h.elim
    · exact h.elim
  · exact h.elim
end
end Go.Sx
set_option linter.unusedSimpArgs false
set_option linter.unusedVariables false
namespace Go.Sx
open Go.RowKit
section
variable {P : Program} {E : Env} {α : Type} {L : α → Prop}

theorem opExtract_sound {x : SV} {i : Nat} {p : Plan} {m : Mem} {κ : Kont α} (h : (opExtract x i p m κ).holds L) :
    ∃ v, (κ v p m).holds L ∧ ∀ (m : Mem) w0 R0 ρ w (xv : Value), Rep (RO w0 R0 ρ w m) ρ m.next w x xv → Plainly P m v (Instr.extract xv i) w0 R0 ρ w := by
  unfold opExtract at h
  split at h
  · rename_i vs
    split at h
    · rename_i v hv
      rw [nth_eq] at hv
      rw [frc_eq] at h
      refine ⟨v, h, fun m w0 R0 ρ w xv hx => ?_⟩
      obtain ⟨us, rfl, hus⟩ := hx
      obtain ⟨u, h1, h2⟩ := hus.get hv
      refine ⟨u, ?_, h2⟩
      have : (⟨us⟩ : Array Value)[i]? = some u := by simpa using h1
      simp only [Instr.extract, this, Sem.run_pure]
    · exact h.elim
  · exact h.elim

/-! ### Slices -/

theorem sliceBound_ok {k : IntKind} {i : Int} {y : Nat} {code : BoundsCode} (h : 0 ≤ i ∧ i ≤ y) (w : World) : (Instr.sliceBound (.int k i) y code).run P w = .ok i.toNat w := by
  simp only [Instr.sliceBound, asIntOf, Sem.run_bind, Sem.run_pure, Result.andThen_ok, if_pos h]

abbrev OptRep (R : Nat → Prop) (ρ : Rho) (n : Nat) (w : World) (x : Option SV) (v : Option Value) : Prop :=
  match x, v with
  | some x, some v => Rep R ρ n w x v
  | none, none => True
  | _, _ => False

/-- The bounds of a slice expression without a third. -/
theorem cut_bounds {γ : Type} {l : List γ} {lo hi : Option SV} {bl : Bool × List γ} (h : cut l lo hi = some bl) (hb : bl.1 = true) (isSlice : Bool) (cap : Nat) (hcap : l.length ≤ cap) (hs : isSlice = false → cap = l.length) {R : Nat → Prop} {ρ : Rho} {n : Nat} {w : World} {lv hv : Option Value}
    (hl : OptRep R ρ n w lo lv) (hh : OptRep R ρ n w hi hv) :
    ∃ a b, (Instr.sliceBounds isSlice l.length cap lv hv none).run P w = .ok (a, b, cap) w ∧ a ≤ b ∧ b ≤ l.length ∧ bl.2 = (l.take b).drop a := by
  unfold cut at h
  split at h
  · injection h with h; subst h
    cases lv <;> cases hv <;> simp [OptRep] at hl hh
    exact ⟨0, l.length, by simp [Instr.sliceBounds], Nat.zero_le _, Nat.le_refl _, by simp⟩
  · rename_i k a
    injection h with h; subst h
    simp only [Bool.and_eq_true, decide_eq_true_eq] at hb
    cases lv with
    | none => exact hl.elim
    | some v =>
      cases hv <;> simp [OptRep] at hh
      obtain rfl : v = _ := hl
      refine ⟨a.toNat, l.length, ?_, by omega, Nat.le_refl _, by simp⟩
      simp [Instr.sliceBounds, sliceBound_ok (P := P) (k := k) (i := a) (y := l.length) (code := .sliceB) hb w]
  · rename_i k b
    injection h with h; subst h
    simp only [Bool.and_eq_true, decide_eq_true_eq] at hb
    cases hv with
    | none => exact hh.elim
    | some v =>
      cases lv <;> simp [OptRep] at hl
      obtain rfl : v = _ := hh
      refine ⟨0, b.toNat, ?_, by omega, by omega, by simp⟩
      cases isSlice <;> simp [Instr.sliceBounds, sliceBound_ok (P := P) (k := k) (i := b) (y := cap) (code := .sliceAcap) (by omega) w, sliceBound_ok (P := P) (k := k) (i := b) (y := cap) (code := .sliceAlen) (by omega) w]
  · rename_i k a k' b
    injection h with h; subst h
    simp only [Bool.and_eq_true, decide_eq_true_eq] at hb
    cases lv with
    | none => exact hl.elim
    | some v =>
      cases hv with
      | none => exact hh.elim
      | some u =>
        obtain rfl : v = _ := hl
        obtain rfl : u = _ := hh
        obtain ⟨⟨⟨h1, h2⟩, h3⟩, h4⟩ := hb
        have hb2 : a ≤ ((b.toNat : Nat) : Int) := by omega
        refine ⟨a.toNat, b.toNat, ?_, by omega, by omega, by simp⟩
        cases isSlice <;> simp [Instr.sliceBounds, sliceBound_ok (P := P) (k := k') (i := b) (y := cap) (code := .sliceAcap) (by omega) w, sliceBound_ok (P := P) (k := k') (i := b) (y := cap) (code := .sliceAlen) (by omega) w,
          sliceBound_ok (P := P) (k := k) (i := a) (y := b.toNat) (code := .sliceB) ⟨h3, hb2⟩ w]
  · cases h

theorem elems_cut {R : Nat → Prop} {w : World} {u : Ty} {l : List u.T} {b o a e : Nat} (h : ∀ i (h : i < List.length l), ∃ cs : List Value, cs.length = u.sz ∧ (∀ j, j < u.sz → w.cell? ⟨b, o + (i * u.sz + j), none⟩ = cs[j]?) ∧ RepD R w u (List.get l ⟨i, h⟩) cs) :
    ∀ i (h : i < List.length ((l.take e).drop a)), ∃ cs : List Value, cs.length = u.sz ∧ (∀ j, j < u.sz → w.cell? ⟨b, (o + a * u.sz) + (i * u.sz + j), none⟩ = cs[j]?) ∧ RepD R w u (List.get ((l.take e).drop a) ⟨i, h⟩) cs := by
  intro i hi
  have hi' : a + i < l.length := by rw [List.length_drop, List.length_take] at hi; omega
  obtain ⟨cs, h1, h2, h3⟩ := h (a + i) hi'
  refine ⟨cs, h1, fun j hj => ?_, ?_⟩
  · rw [← h2 j hj]
    congr 2
    rw [Nat.add_mul]; omega
  · have : List.get ((l.take e).drop a) ⟨i, hi⟩ = List.get l ⟨a + i, hi'⟩ := by simp
    rw [this]; exact h3

theorem opSlice_sound (hE : EOK P E) {t : TypeId} {x : SV} {lo hi mx : Option SV} {p : Plan} {m : Mem} {κ : Kont α} (h : (opSlice E t x lo hi mx p m κ).holds L) :
    ∃ v m', (κ v p m').holds L ∧ (mx = none → m' = m) ∧ ∀ w0 R0 ρ w (xv : Value) (lv hv mv : Option Value), MRel w0 R0 ρ w m → Rep (RO w0 R0 ρ w m) ρ m.next w x xv → OptRep (RO w0 R0 ρ w m) ρ m.next w lo lv → OptRep (RO w0 R0 ρ w m) ρ m.next w hi hv → OptRep (RO w0 R0 ρ w m) ρ m.next w mx mv →
      Yields' P m v m' (Instr.sliceAt t xv lv hv mv) w0 R0 ρ w := by
  unfold opSlice at h
  split at h
  · rename_i r hr
    have hu := (hE.row _ _ hr).und
    split at h
    · -- a string
      rename_i s hd
      rw [hd] at hu
      split at h
      · rename_i bl hbl
        obtain ⟨hb, h⟩ := h
        refine ⟨_, m, h, fun _ => rfl, fun w0 R0 ρ w xv lv hv mv hm hx hl hh hmx => Plainly.yields ⟨.string ⟨⟨bl.2⟩⟩, ?_, rfl⟩ hm⟩
        rw [show xv = _ from hx]
        cases mv with
        | some _ => exact hmx.elim
        | none =>
          obtain ⟨a, b, h1, h2, h3, h4⟩ := cut_bounds (P := P) hbl hb false s.length (Nat.le_refl _) (fun _ => rfl) hl hh
          have hsz : (ByteArray.mk ⟨s⟩).size = s.length := rfl
          simp only [Instr.sliceAt, Instr.slice, Sem.run_bind, run_underlying hu, Result.andThen_ok, Option.isSome_none, Bool.false_eq_true, if_false, hsz, Sem.run_pure, h1, Result.ok.injEq, and_true, Value.string.injEq]
          rw [Lib.extract_eq, h4, List.drop_take]
      · exact h.elim
    · -- a slice
      rename_i e u xs hd
      rw [hd] at hu
      split at h
      · rename_i re hre
        have hok := hE.row _ _ hre
        split at h
        · rename_i hs
          have hs' : re.size = u.sz := by simpa using hs
          split at h
          · rename_i bl hbl
            obtain ⟨hb, h⟩ := h
            refine ⟨_, m, h, fun _ => rfl, fun w0 R0 ρ w xv lv hv mv hm hx hl hh hmx => ?_⟩
            cases mv with
            | some _ => exact hmx.elim
            | none =>
              obtain ⟨A, cap, hxv, hc, hel⟩ := hx
              injection hxv with hxv
              subst hxv
              obtain ⟨a, b, h1, h2, h3, h4⟩ := cut_bounds (P := P) hbl hb true cap hc (fun h => by cases h) hl hh
              refine Plainly.yields ⟨.slice (if cap = a then A else A.map (·.add (a * u.sz))) (b - a) (cap - a), ?_, ?_⟩ hm
              · simp only [Instr.sliceAt, Instr.slice, Sem.run_bind, run_underlying hu, Result.andThen_ok, h1, run_sizeOf' hok, hs', Sem.run_pure]
              · have hlen : List.length bl.2 = b - a := by rw [h4, List.length_drop, List.length_take, Nat.min_eq_left h3]
                refine ⟨_, cap - a, by rw [hlen], by rw [hlen]; omega, fun hp => ?_⟩
                obtain ⟨B, o, rfl, hR, hall⟩ := hel (by omega)
                rw [if_neg (by omega)]
                refine ⟨B, o + a * u.sz, by simp [Addr.add_lit], hR, ?_⟩
                have := elems_cut (a := a) (e := b) hall
                rw [← h4] at this
                exact this
          · exact h.elim
        · exact h.elim
      · exact h.elim
    · -- a whole array behind a pointer
      rename_i n e id off hd
      rw [hd] at hu
      split at h
      · rename_i re hre
        have hok := hE.row _ _ hre
        refine ⟨_, m, h, fun _ => rfl, fun w0 R0 ρ w xv lv hv mv hm hx hl hh hmx => ?_⟩
        cases lv <;> cases hv <;> cases mv <;> first | exact hl.elim | exact hh.elim | exact hmx.elim | skip
        obtain ⟨hid, rfl⟩ := hx
        refine Plainly.yields ⟨.slice (some ⟨(ρ id).1, off, none⟩) n n, ?_, hid, rfl⟩ hm
        simp [Instr.sliceAt, run_underlying hu, Instr.sureAddr, Instr.sliceBounds, run_sizeOf' hok, Addr.add]
      · exact h.elim
    · exact h.elim
  · rename_i r mx' hr
    have hu := (hE.row _ _ hr).und
    split at h
    · rename_i e k h' k' c hd
      rw [hd] at hu
      split at h
      · rename_i de sz by_ ze u eg he hre
        have hok := hE.row _ _ hre
        split at h
        · rename_i hs
          simp only [Bool.and_eq_true, beq_iff_eq] at hs
          obtain ⟨hb, h⟩ := h
          simp only [Bool.and_eq_true, beq_iff_eq] at hb
          obtain ⟨m', h1, h2⟩ := Mem.push_holds h
          refine ⟨_, m', h2, fun hn => (by cases hn), fun w0 R0 ρ w xv lv hv mv hm hx hl hh hmx => ?_⟩
          cases lv with
          | some _ => exact hl.elim
          | none =>
            cases hv with
            | none => exact hh.elim
            | some hv =>
              cases mv with
              | none => exact hmx.elim
              | some mv =>
                have hform : ∃ A len cap, xv = .slice A len cap := by
                  cases x <;> simp only [emptyOk] at hs <;> try (cases hs.2; done)
                  · exact ⟨_, _, _, hx⟩
                  · obtain ⟨A, cap, hxv, _⟩ := hx
                    injection hxv with hxv
                    exact ⟨_, _, _, hxv⟩
                  · obtain ⟨_, A, hxv, _⟩ := hx
                    exact ⟨_, _, _, hxv⟩
                obtain ⟨A, len, cap, rfl⟩ := hform
                obtain rfl : hv = _ := hh
                obtain rfl : mv = _ := hmx
                rw [hb.1, hb.2]
                refine ⟨.slice A 0 0, w, ?_, ?_⟩
                · have hz : ∀ (k : IntKind) (y : Nat) (code : BoundsCode), (Instr.sliceBound (.int k 0) y code).run P w = .ok 0 w := fun k y code => sliceBound_ok (P := P) (k := k) (i := 0) (by omega) w
                  simp [Instr.sliceAt, Instr.slice, run_underlying hu, Instr.sliceBounds, hz, run_sizeOf' hok]
                · obtain ⟨g1, g2⟩ := hm.push (w' := w) (r := (0, 0, 0)) h1 rfl rfl rfl (Nat.le_refl _) (fun _ _ => rfl) (fun hsol => absurd hsol (Nat.lt_irrefl _)) (fun R n ρ' e' => ⟨rfl, Nat.le_refl _, fun h0 => absurd h0 (Nat.lt_irrefl _)⟩)
                  exact ⟨_, g1, g2, by rw [h1.2]; omega, A, by rw [upd_same], fun h0 => by rw [upd_same] at h0; exact absurd h0 (Nat.lt_irrefl _)⟩
        · exact h.elim
      · exact h.elim
    · exact h.elim
  · exact h.elim
end
end Go.Sx
set_option linter.unusedSimpArgs false
set_option linter.unusedVariables false
namespace Go.Sx
open Go.RowKit
section
variable {P : Program} {E : Env} {α : Type} {L : α → Prop}

theorem not_ints {m : Mem} {u : Ty} {x : SV} {xs : List u.T} (h : elemsOf u m x = some xs) {R : Nat → Prop} {ρ : Rho} {n : Nat} {w : World} {xv : Value} (hx : Rep R ρ n w x xv) : (∃ a l c, xv = .slice a l c) ∨ ∃ s, xv = .string s := by
  cases x <;> simp only [elemsOf] at h <;> try (cases h; done)
  · exact .inr ⟨_, hx⟩
  · exact .inl ⟨_, _, _, hx⟩
  · obtain ⟨A, cap, hxv, _⟩ := hx
    injection hxv with hxv
    exact .inl ⟨_, _, _, hxv⟩
  · obtain ⟨_, A, hxv, _⟩ := hx
    exact .inl ⟨_, _, _, hxv⟩
  · exact .inl ⟨_, _, _, hx.2⟩
  case raw v =>
    split at h
    · exact .inl ⟨_, _, _, hx⟩
    · cases h

theorem repD_one {R : Nat → Prop} {w : World} : ∀ (t : Ty) (x : t.T) (vs : List Value), RepD R w t x vs → ∀ y ∈ vs, y.oneCell' = true
  | .unit, _, vs, h, y, hy => by rw [show vs = [] from h] at hy; cases hy
  | .int _, _, vs, h, y, hy => by rw [show vs = _ from h] at hy; rw [List.mem_singleton.1 hy]; rfl
  | .bool, _, vs, h, y, hy => by rw [show vs = _ from h] at hy; rw [List.mem_singleton.1 hy]; rfl
  | .str, _, vs, h, y, hy => by rw [show vs = _ from h] at hy; rw [List.mem_singleton.1 hy]; rfl
  | .list t, l, vs, h, y, hy => by
    obtain ⟨a, cap, rfl, _⟩ := h
    rw [List.mem_singleton.1 hy]; rfl
  | .pair a b, x, vs, h, y, hy => by
    obtain ⟨v1, v2, rfl, h1, h2⟩ := h
    rcases List.mem_append.1 hy with hy | hy
    · exact repD_one a x.1 v1 h1 y hy
    · exact repD_one b x.2 v2 h2 y hy

/-- Where the second operand's type is no integer: the source is what it says. -/
structure AppOK (P : Program) (ts : Array TypeId) (t e : TypeId) : Prop where
  t0 : ts[0]? = some t
  t1 : ∃ t1, ts[1]? = some t1 ∧ ((∃ e', P.underlying t1 = some (.slice e')) ∨ P.underlying t1 = some .string)

theorem append_room {ts : Array TypeId} {t e ty : TypeId} {re : Row} (ha : AppOK P ts t e) (hu : P.underlying t = some (.slice e)) (hok : RowOK P e re) {base : Option Addr} {len cap : Nat} {xv : Value} {n : Nat} {w : World} (hn : (Builtin.lenOf xv).run P w = .ok n w) (hle : len + n ≤ cap) :
    (Builtin.append_ ts ty #[.slice base len cap, xv]).run P w = ((Builtin.firstCells re.size n xv).run P w).andThen fun new w => match base with
      | some a => ((storeCells (a.add (len * re.size)) new.toList).run P w).andThen fun _ w => .ok (.slice base (len + n) cap) w
      | none => .ok (.slice base (len + n) cap) w := by
  obtain ⟨t1, ht1, hd⟩ := ha.t1
  rcases hd with ⟨e', hd⟩ | hd <;> cases base <;> simp [Builtin.append_, ha.t0, ht1, run_underlying hu, run_underlying hd, run_sizeOf' hok, hn, hle]

theorem append_grow {ts : Array TypeId} {t e ty : TypeId} {re : Row} (ha : AppOK P ts t e) (hu : P.underlying t = some (.slice e)) (hok : RowOK P e re) {base : Option Addr} {len cap : Nat} {xv z : Value} {n : Nat} {w : World} {old new : List Value} (hn : (Builtin.lenOf xv).run P w = .ok n w) (hgt : cap < len + n)
    (hb : 1 ≤ re.bytes) (hfit : (len + n) * re.bytes ≤ 140737488355328) (ho : (Builtin.firstCells re.size len (.slice base len cap)).run P w.drew = .ok ⟨old⟩ w.drew) (hnew : (Builtin.firstCells re.size n xv).run P w.drew = .ok ⟨new⟩ w.drew) (hz : ∀ w, (zeroValue e).run P w = .ok z w) :
    (Builtin.append_ ts ty #[.slice base len cap, xv]).run P w =
      .ok (.slice (some ⟨w.heap.size, 0, none⟩) (len + n) (grownCap w (len + n) cap e)) (w.drew.alloc (.cells (⟨old⟩ ++ ⟨new⟩ ++ Builtin.zeroCells z.cells (grownCap w (len + n) cap e - (len + n))) e)) := by
  obtain ⟨t1, ht1, hd⟩ := ha.t1
  obtain ⟨i, hi, hib, his⟩ := run_typeInfo' hok
  have h1 : ¬ len + n ≤ cap := by omega
  have h2 : ¬ i.bytes = 0 := by omega
  have h3 : ¬ (281474976710656 < Builtin.nextslicecap (len + n) cap * i.bytes) := by
    have := growslice_fits hgt hfit
    rw [hib]; omega
  rcases hd with ⟨e', hd⟩ | hd <;> simp [Builtin.append_, ha.t0, ht1, run_underlying hu, run_underlying hd, run_sizeOf' hok, hn, h1, hi, h2, h3, Question.forced, ho, hnew, hz, newRow, grownCap] <;> exact congrArg (fun c => w.drew.alloc (Obj.cells c e)) (Array.ext' (by simp))

/-- What the old row holds. -/
theorem old_cells {w0 : World} {R0 : Nat → Prop} {ρ : Rho} {w : World} {m : Mem} (hm : MRel w0 R0 ρ w m) {u : Ty} {id : Nat} {l : List u.T} (hg : m.get id = some (.rows u l)) {sv : Value} (hs : Rep (RO w0 R0 ρ w m) ρ m.next w (.row id) sv) :
    ∃ base vs, sv = .slice base l.length (ρ id).2.2 ∧ (0 < (ρ id).2.2 → base = some ⟨(ρ id).1, 0, none⟩) ∧ (Builtin.firstCells u.sz l.length sv).run P w = .ok ⟨vs⟩ w ∧ RepDL (RO w0 R0 ρ w m) w u l vs := by
  obtain ⟨vs, h1, h2, h3⟩ := elemsOf_cells (P := P) (u := u) (xs := l) (by simp [elemsOf, hg]) hm hs
  obtain ⟨hid, a, rfl, ha⟩ := hs
  obtain ⟨b1, _⟩ := hm.box id _ hg
  exact ⟨a, vs, by rw [b1], ha, h2, h3⟩

theorem firstCells_drew {size n : Nat} {v : Value} {w : World} {cs : Array Value} (h : (Builtin.firstCells size n v).run P w = .ok cs w) : (Builtin.firstCells size n v).run P w.drew = .ok cs w.drew := by
  cases v with
  | slice a l c =>
    cases a with
    | none => simp only [Builtin.firstCells, Sem.run_pure, Result.ok.injEq] at h ⊢; exact ⟨h.1, trivial⟩
    | some a =>
      simp only [Builtin.firstCells, Go.loadCells] at h ⊢
      have key : ∀ (k i : Nat) (acc cs : Array Value), (loadCellsFrom a i k acc).run P w = .ok cs w → (loadCellsFrom a i k acc).run P w.drew = .ok cs w.drew := by
        intro k
        induction k with
        | zero => intro i acc cs h; simp only [loadCellsFrom, Sem.run_pure, Result.ok.injEq] at h ⊢; exact ⟨h.1, trivial⟩
        | succ k ih =>
          intro i acc cs h
          simp only [loadCellsFrom, Sem.run_bind, run_load, World.cell?_drew] at h ⊢
          cases hc : w.cell? (a.add i) with
          | some v => rw [hc] at h; exact ih _ _ _ h
          | none =>
            rw [hc] at h
            dsimp only at h ⊢
            have hf : w.drew.farLoad P (a.add i) (Mode.plain == .atomic) = w.farLoad P (a.add i) (Mode.plain == .atomic) := rfl
            rw [hf]
            cases hq : w.farLoad P (a.add i) (Mode.plain == .atomic) with
            | ok q => rw [hq] at h; exact ih _ _ _ h
            | error e => rw [hq] at h; cases h
      exact key _ _ _ _ h
  | string s => simp only [Builtin.firstCells, Sem.run_pure, Result.ok.injEq] at h ⊢; exact ⟨h.1, trivial⟩
  | _ => simp [Builtin.firstCells] at h

/-- The grown row. -/
theorem grown_out {w0 : World} {R0 : Nat → Prop} {ρ : Rho} {w : World} {m m' : Mem} {u : Ty} {l xs : List u.T} {old new : List Value} {e : TypeId} {z : Value} {cap : Nat} (hm : MRel w0 R0 ρ w m) (hp : MPush m (.rows u (l ++ xs)) m') (ho : RepDL (RO w0 R0 ρ w m) w u l old) (hn : RepDL (RO w0 R0 ρ w m) w u xs new)
    (hz : ∀ R w, RepD R w u u.dflt z.cells.toList) :
    OpOut w0 R0 ρ w m (.row m.next) m' (.slice (some ⟨w.heap.size, 0, none⟩) (l.length + xs.length) (grownCap w (l.length + xs.length) cap e)) (w.drew.alloc (.cells (⟨old⟩ ++ ⟨new⟩ ++ Builtin.zeroCells z.cells (grownCap w (l.length + xs.length) cap e - (l.length + xs.length))) e)) := by
  have hzs : z.cells.size = u.sz := by
    have := (RepD.flat (ρ := ρ) (n := 0) u u.dflt _ (hz (fun _ => True) w)).1
    simpa using this
  have hcap : l.length + xs.length ≤ grownCap w (l.length + xs.length) cap e := Nat.le_add_right _ _
  have := push_rows (u := u) (l := l ++ xs) (cap := grownCap w (l.length + xs.length) cap e) (vs := old ++ new) (rest := (Builtin.zeroCells z.cells (grownCap w (l.length + xs.length) cap e - (l.length + xs.length))).toList)
    (w1 := w.drew.alloc (.cells (⟨old⟩ ++ ⟨new⟩ ++ Builtin.zeroCells z.cells (grownCap w (l.length + xs.length) cap e - (l.length + xs.length))) e)) hm hp rfl rfl rfl (by simp) (fun k hk => Below.heap_alloc w.drew _ k hk) (heap_alloc_new w.drew _) (unfrozen_zero _)
    (by
      have h1 := ho.length
      have h2 := hn.length
      simp only [Array.size_append, Builtin.zeroCells, Array.size_map, Array.size_range, hzs]
      have e1 : (⟨old⟩ : Array Value).size = old.length := rfl
      have e2 : (⟨new⟩ : Array Value).size = new.length := rfl
      rw [e1, e2, h1, h2, ← Nat.add_mul, ← Nat.add_mul]
      congr 1; omega)
    (by simpa using hcap) (by simp) (ho.append hn)
  simpa using this

theorem opAppend_sound (hE : EOK P E) {t : TypeId} {s x : SV} {p : Plan} {m : Mem} {κ : Kont α} (h : (opAppend E t s x p m κ).holds L) :
    ∃ v p' m', (κ v p' m').holds L ∧ ∀ (ts : Array TypeId) ty w0 R0 ρ w (sv xv : Value), (∀ e, P.underlying t = some (.slice e) → AppOK P ts t e) → MRel w0 R0 ρ w m → Rep (RO w0 R0 ρ w m) ρ m.next w s sv → Rep (RO w0 R0 ρ w m) ρ m.next w x xv →
      Yields' P m v m' (Builtin.append_ ts ty #[sv, xv]) w0 R0 ρ w := by
  unfold opAppend at h
  split at h
  · rename_i e sz by_ ze ty0 eg he hrow
    have hu := (hE.row _ _ hrow).und
    dsimp only at hu
    split at h
    · rename_i de size bytes ze' u eg' he' hre
      have hok := hE.row _ _ hre
      split at h
      · rename_i hs
        simp only [Bool.and_eq_true, beq_iff_eq, Nat.ble_eq] at hs
        obtain ⟨z, hz1, _, hz3⟩ := run_zero' hok
        have hz3' := hz3 u rfl
        split at h
        · rename_i xs hxs
          split at h
          · -- nil
            obtain ⟨hb, h⟩ := h
            have hb' := of_decide_eq_true hb
            obtain ⟨m', h1, h2⟩ := Mem.push_holds h
            refine ⟨_, p, m', h2, fun ts ty w0 R0 ρ w sv xv ha hm hsv hxv => ?_⟩
            rw [show sv = _ from hsv]
            obtain ⟨vs, k1, k2, k3⟩ := elemsOf_cells (P := P) hxs hm hxv
            rw [← hs.1] at k2
            by_cases h0 : xs.length = 0
            · refine ⟨_, _, (append_room (ha e hu) hu hok k1 (by omega)).trans (by rw [k2]; rfl), ?_⟩
              have hnil : xs = [] := List.eq_nil_of_length_eq_zero h0
              subst hnil
              obtain ⟨g1, g2⟩ := hm.push (w' := w) (r := (0, 0, 0)) h1 rfl rfl rfl (Nat.le_refl _) (fun _ _ => rfl) (fun hsol => absurd hsol (Nat.lt_irrefl _)) (fun R n ρ' e' => ⟨rfl, Nat.le_refl _, fun h0 => absurd h0 (Nat.lt_irrefl _)⟩)
              exact ⟨_, g1, g2, by rw [h1.2]; omega, none, by rw [upd_same]; rfl, fun h0 => by rw [upd_same] at h0; exact absurd h0 (Nat.lt_irrefl _)⟩
            · have hrun := append_grow (ts := ts) (ty := ty) (len := 0) (cap := 0) (base := none) (old := []) (new := vs) (z := z) (ha e hu) hu hok k1 (by omega) hs.2 (by simpa using hb') (by simp [Builtin.firstCells]) (firstCells_drew k2) hz1
              refine ⟨_, _, hrun, ?_⟩
              have := grown_out (l := []) (xs := xs) (old := []) (new := vs) (e := e) (z := z) (cap := 0) hm (by simpa using h1) rfl k3 hz3'
              simpa using this
          · -- a row of the call's own
            rename_i id
            split at h
            · rename_i v l hg
              split at h
              · rename_i hv
                subst hv
                obtain ⟨hb, h⟩ := h
                have hb' := of_decide_eq_true hb
                obtain ⟨m1, h1, h2⟩ := Mem.set_holds h
                obtain ⟨m', h3, h4⟩ := Mem.push_holds h2
                refine ⟨_, p, m', h4, fun ts ty w0 R0 ρ w sv xv ha hm hsv hxv => ?_⟩
                obtain ⟨vs, k1, k2, k3⟩ := elemsOf_cells (P := P) hxs hm hxv
                obtain ⟨base, olds, rfl, hbase, o2, o3⟩ := old_cells (P := P) hm hg hsv
                rw [← hs.1] at k2 o2
                obtain ⟨d1, d2⟩ := hm.drop h1
                have hlen1 : m1.next = m.next := h1.2
                by_cases hle : l.length + xs.length ≤ (ρ id).2.2
                · -- in place
                  have hrun := append_room (ty := ty) (base := base) (len := l.length) (cap := (ρ id).2.2) (ha e hu) hu hok k1 hle
                  rw [k2] at hrun
                  rcases Nat.eq_zero_or_pos (ρ id).2.2 with hc0 | hc0
                  · -- no room at all: nothing is appended
                    have hl0 : l = [] := List.eq_nil_of_length_eq_zero (by omega)
                    have hx0 : xs = [] := List.eq_nil_of_length_eq_zero (by omega)
                    subst hl0 hx0
                    have hvs : vs = [] := k3
                    subst hvs
                    have hrun' : (Builtin.append_ ts ty #[.slice base ([] : List v.T).length (ρ id).2.2, xv]).run P w = .ok (.slice base 0 (ρ id).2.2) w := by
                      rw [hrun]
                      cases base <;> rfl
                    refine ⟨_, _, hrun', ?_⟩
                    obtain ⟨g1, g2⟩ := d1.push (w' := w) (r := (0, 0, 0)) h3 rfl rfl rfl (Nat.le_refl _) (fun _ _ => rfl) (fun hsol => absurd hsol (Nat.lt_irrefl _)) (fun R n ρ' e' => ⟨rfl, Nat.le_refl _, fun h0 => absurd h0 (Nat.lt_irrefl _)⟩)
                    exact ⟨_, g1, d2.trans g2, by rw [h3.2]; omega, base, by rw [upd_same, hc0], fun h0 => by rw [upd_same] at h0; exact absurd h0 (Nat.lt_irrefl _)⟩
                  · obtain rfl := hbase hc0
                    obtain ⟨arr, el, fr, q1, q2, q3, q4⟩ := rows_repDL hm hg hc0
                    have hvl := k3.length
                    have hroom : l.length * v.sz + vs.length ≤ arr.size := by
                      rw [q3, hvl, ← Nat.add_mul]; exact Nat.mul_le_mul_right _ hle
                    have hone : ∀ y ∈ vs, y.oneCell' = true := by
                      have : ∀ (ls : List v.T) (us : List Value), RepDL (RO w0 R0 ρ w m) w v ls us → ∀ y ∈ us, y.oneCell' = true := by
                        intro ls
                        induction ls with
                        | nil => intro us h y hy; rw [show us = [] from h] at hy; cases hy
                        | cons a ls ih =>
                          intro us h y hy
                          obtain ⟨v1, v2, rfl, r1, r2⟩ := h
                          rcases List.mem_append.1 hy with hy | hy
                          · obtain ⟨f1, f2⟩ := RepD.flat (ρ := ρ) (n := m.next) v a v1 r1
                            exact repD_one v a v1 r1 y hy
                          · exact ih v2 r2 y hy
                      exact this xs vs k3
                    obtain ⟨w', r1, r2, r3, r4, r5, r6, r7⟩ := run_storeCells' (P := P) (ρ id).1 (l.length * v.sz) el fr vs 0 arr w q1 q2 (by omega) hone
                    have hrun' : (Builtin.append_ ts ty #[.slice (some ⟨(ρ id).1, 0, none⟩) l.length (ρ id).2.2, xv]).run P w = .ok (.slice (some ⟨(ρ id).1, 0, none⟩) (l.length + xs.length) (ρ id).2.2) w' := by
                      rw [hrun]
                      simp only [Result.andThen_ok, Addr.add_lit, hs.1, Nat.zero_add, r1]
                    refine ⟨_, _, hrun', ?_⟩
                    rw [Nat.add_zero] at r2
                    -- the old box let go, a new one in its block
                    have hdrop : ∀ k C, m1.get k = some C → k ≠ id ∧ m.get k = some C := fun k C hk => by
                      rw [h1.1 k] at hk
                      by_cases e0 : k = id
                      · rw [if_pos e0] at hk; cases hk
                      · rw [if_neg e0] at hk; exact ⟨e0, hk⟩
                    have hnew : ∀ k C, m'.get k = some C → (k = m.next ∧ C = .rows v (l ++ xs)) ∨ (k ≠ m.next ∧ k ≠ id ∧ m.get k = some C) := fun k C hk => by
                      rw [h3.1 k, hlen1] at hk
                      by_cases e0 : k = m.next
                      · rw [if_pos e0] at hk; injection hk with hk; exact .inl ⟨e0, hk.symm⟩
                      · rw [if_neg e0] at hk; exact .inr ⟨e0, hdrop k C hk⟩
                    have hidlt : id < m.next := hm.lt id _ hg
                    have hsol : solid (ρ id) (.rows v l) := hc0
                    have hblk := hm.hi id _ hg hsol
                    have hblo := hm.lo id _ hg hsol
                    have hro : ∀ b, RO w0 R0 ρ w m b → RO w0 R0 (upd ρ m.next ((ρ id).1, l.length + xs.length, (ρ id).2.2)) w' m' b := fun b hb => by
                      have hne := hm.ro_ne hb hg hsol
                      rcases hb with hb | ⟨g1, g2, g3⟩
                      · exact .inl hb
                      · refine .inr ⟨g1, by omega, fun k C hk hs' => ?_⟩
                        rcases hnew k C hk with ⟨rfl, rfl⟩ | ⟨n1, n2, n3⟩
                        · rw [upd_same]; exact hne
                        · rw [upd_other _ _ n1] at hs' ⊢; exact g3 k C n3 hs'
                    have hext : MExt w0 R0 ρ w m (upd ρ m.next ((ρ id).1, l.length + xs.length, (ρ id).2.2)) w' m' :=
                      ⟨by rw [h3.2]; omega, fun k hk => upd_other _ _ (by omega), fun b hb => ⟨hro b hb, r7 b (Ne.symm (hm.ro_ne hb hg hsol))⟩⟩
                    have harr : (overA arr (l.length * v.sz) vs).toList = (arr.toList.take (l.length * v.sz) ++ vs) ++ arr.toList.drop (l.length * v.sz + vs.length) := by simp [overA]
                    refine ⟨_, ⟨hm.below.trans ⟨r3, r4, r5, by omega, fun k hk => r7 k (by omega)⟩, fun k C hk => ?_, fun k C hk hs' => ?_, fun k C hk hs' => ?_, fun k k' C C' hk hk' hs1 hs2 he0 => ?_, fun k C hk => ?_⟩, hext, by rw [h3.2]; omega, _, by rw [hlen1, upd_same], fun _ => by rw [hlen1, upd_same]⟩
                    · rw [h3.2]
                      rcases hnew k C hk with ⟨rfl, _⟩ | ⟨_, _, n3⟩
                      · omega
                      · have := hm.lt k C n3; omega
                    · rcases hnew k C hk with ⟨rfl, rfl⟩ | ⟨n1, _, n3⟩
                      · rw [upd_same]; exact hblo
                      · rw [upd_other _ _ n1] at hs' ⊢; exact hm.lo k C n3 hs'
                    · rw [r6]
                      rcases hnew k C hk with ⟨rfl, rfl⟩ | ⟨n1, _, n3⟩
                      · rw [upd_same]; exact hblk
                      · rw [upd_other _ _ n1] at hs' ⊢; exact hm.hi k C n3 hs'
                    · rcases hnew k C hk with ⟨rfl, rfl⟩ | ⟨n1, n2, n3⟩ <;> rcases hnew k' C' hk' with ⟨rfl, rfl⟩ | ⟨n1', n2', n3'⟩
                      · rfl
                      · rw [upd_same] at he0; rw [upd_other _ _ n1'] at he0 hs2
                        exact absurd (hm.inj id k' _ C' hg n3' hsol hs2 he0).symm n2'
                      · rw [upd_same] at he0; rw [upd_other _ _ n1] at he0 hs1
                        exact absurd (hm.inj k id C _ n3 hg hs1 hsol he0) n2
                      · rw [upd_other _ _ n1] at he0 hs1; rw [upd_other _ _ n1'] at he0 hs2
                        exact hm.inj k k' C C' n3 n3' hs1 hs2 he0
                    · rcases hnew k C hk with ⟨rfl, rfl⟩ | ⟨n1, n2, n3⟩
                      · rw [upd_same]
                        exact boxRows_of (by simp) (by simpa using hle) r2 (unfrozen_over q2 hroom) (by rw [overA_size hroom]; exact q3) harr ((RepDL.mono hext.keep q4).append (RepDL.mono hext.keep k3))
                      · rw [upd_other _ _ n1]
                        exact BoxRel.mono hext C (fun hs' => r7 _ fun he0 => n2 (hm.inj k id C _ n3 hg hs' hsol he0)) (hm.box k C n3)
                · -- a new row
                  have hrun := append_grow (ts := ts) (ty := ty) (len := l.length) (cap := (ρ id).2.2) (base := base) (old := olds) (new := vs) (z := z) (ha e hu) hu hok k1 (by omega) hs.2 hb' (firstCells_drew o2) (firstCells_drew k2) hz1
                  refine ⟨_, _, hrun, ?_⟩
                  obtain ⟨ρ', g1, g2, g3⟩ := grown_out (e := e) (z := z) (cap := (ρ id).2.2) d1 h3 (RepDL.mono d2.keep o3) (RepDL.mono d2.keep k3) hz3'
                  exact ⟨ρ', g1, d2.trans g2, g3⟩
              · exact h.elim
            · exact h.elim
          · -- an array's slice
            rename_i id off n
            split at h
            · rename_i l hl
              obtain ⟨p', h⟩ := dec_holds h
              cases hxe : xs.isEmpty with
              | true =>
              rw [hxe] at h
              refine ⟨_, p', m, h, fun ts ty w0 R0 ρ w sv xv ha hm hsv hxv => ?_⟩
              have hnil : xs = [] := by simpa using hxe
              subst hnil
              obtain ⟨vs, k1, k2, k3⟩ := elemsOf_cells (P := P) hxs hm hxv
              rw [← hs.1] at k2
              have hvs : vs = [] := k3
              subst hvs
              obtain ⟨hid, rfl⟩ := hsv
              refine Plainly.yields (m := m) ⟨.slice (some ⟨(ρ id).1, off, none⟩) n n, ?_, hid, rfl⟩ hm
              have hrun := append_room (ts := ts) (ty := ty) (base := some ⟨(ρ id).1, off, none⟩) (len := n) (cap := n) (ha e hu) hu hok k1 (Nat.le_refl _)
              rw [hrun, k2]
              rfl
              | false =>
              rw [hxe] at h
              obtain ⟨hb2, h⟩ := h
              have hb : 0 < xs.length ∧ (l.length + xs.length) * bytes ≤ 140737488355328 := ⟨by cases xs with | nil => cases hxe | cons _ _ => simp, by simpa using hb2⟩
              obtain ⟨m', h1, h2⟩ := Mem.push_holds h
              refine ⟨_, p', m', h2, fun ts ty w0 R0 ρ w sv xv ha hm hsv hxv => ?_⟩
              obtain ⟨vs, k1, k2, k3⟩ := elemsOf_cells (P := P) hxs hm hxv
              obtain ⟨olds, o1, o2, o3⟩ := elemsOf_cells (P := P) hl hm hsv
              obtain ⟨_, rfl⟩ := hsv
              rw [← hs.1] at k2 o2
              have hn : n = l.length := by simpa [Builtin.lenOf] using o1
              subst hn
              have hrun := append_grow (ts := ts) (ty := ty) (len := l.length) (cap := l.length) (old := olds) (new := vs) (z := z) (ha e hu) hu hok k1 (by omega) hs.2 hb.2 (firstCells_drew o2) (firstCells_drew k2) hz1
              exact ⟨_, _, hrun, grown_out (e := e) (z := z) (cap := l.length) hm h1 o3 k3 hz3'⟩
            · exact h.elim
          · exact h.elim
        · exact h.elim
      · exact h.elim
    · exact h.elim
  · exact h.elim
end
end Go.Sx
set_option linter.unusedSimpArgs false
set_option linter.unusedVariables false
namespace Go.Sx
open Go.RowKit
section
variable {P : Program} {E : Env} {α : Type} {L : α → Prop}

theorem lenOf_run {m : Mem} {x : SV} {n : Nat} (h : lenOf m x = some n) {m2 : Mem} (hsh : Shape m m2) {w0 : World} {R0 : Nat → Prop} {ρ : Rho} {w : World} {xv : Value} (hm : MRel w0 R0 ρ w m2) (hx : Rep (RO w0 R0 ρ w m2) ρ m2.next w x xv) :
    ∃ a c, xv = .slice a n c := by
  cases x <;> simp only [lenOf] at h <;> try (cases h; done)
  case nilS => injection h with h; subst h; exact ⟨_, _, hx⟩
  case list t l =>
    injection h with h; subst h
    obtain ⟨A, cap, hxv, _⟩ := hx
    injection hxv with hxv
    exact ⟨_, _, hxv⟩
  case row id =>
    split at h
    · rename_i t l hg
      injection h with h; subst h
      obtain ⟨hid, a, rfl, _⟩ := hx
      obtain ⟨B', hg2, hl⟩ := hsh id _ hg
      cases B' <;> try exact hl.elim
      obtain ⟨rfl, hll⟩ := hl
      obtain ⟨b1, _⟩ := hm.box id _ hg2
      rw [← hll] at b1
      exact ⟨a, (ρ id).2.2, by rw [b1]⟩
    · cases h
  case arr id off k => injection h with h; subst h; exact ⟨_, _, hx.2⟩

theorem opLen_sound (hE : EOK P E) {t : TypeId} {x : SV} {p : Plan} {m : Mem} {κ : Kont α} (h : (opLen E t x p m κ).holds L) :
    ∃ v, (κ v p m).holds L ∧ ∀ m2, Shape m m2 → ∀ (ts : Array TypeId) ty w0 R0 ρ w (xv : Value), ts[0]? = some t → MRel w0 R0 ρ w m2 → Rep (RO w0 R0 ρ w m2) ρ m2.next w x xv → Plainly P m2 v (Builtin.len_ ts ty #[xv]) w0 R0 ρ w := by
  unfold opLen at h
  split at h
  · rename_i r hr
    have hu := (hE.row _ _ hr).und
    split at h
    · rename_i n e hd
      rw [hd] at hu
      refine ⟨_, h, fun m2 hsh ts ty w0 R0 ρ w xv ht hm hx => ⟨_, ?_, rfl⟩⟩
      cases xv <;> simp [Builtin.len_, ht, run_underlying hu, goInt]
    · rename_i hd
      rw [hd] at hu
      split at h
      · rename_i s
        refine ⟨_, h, fun m2 hsh ts ty w0 R0 ρ w xv ht hm hx => ⟨_, ?_, rfl⟩⟩
        rw [show xv = _ from hx]
        simp only [Builtin.len_, ht, Array.getElem?_eq_getElem (show 0 < (#[Value.string ⟨⟨s⟩⟩]).size by simp), Sem.run_bind, run_underlying hu, Result.andThen_ok]
        rfl
      · exact h.elim
    · rename_i e hd
      rw [hd] at hu
      split at h
      · rename_i n hn
        refine ⟨_, h, fun m2 hsh ts ty w0 R0 ρ w xv ht hm hx => ⟨_, ?_, rfl⟩⟩
        obtain ⟨a, c, rfl⟩ := lenOf_run hn hsh hm hx
        simp [Builtin.len_, ht, run_underlying hu, goInt]
      · exact h.elim
    · exact h.elim
  · exact h.elim

theorem maxAll_run {R : Nat → Prop} {ρ : Rho} {n : Nat} {w : World} : ∀ (vs : List SV) (x v : SV) (us : List Value) (u : Value), maxAll x vs = some v → Rep R ρ n w x u → RepL R ρ n w vs us → ∃ y, (us.foldlM Builtin.max2 u).run P w = .ok y w ∧ Rep R ρ n w v y
  | [], x, v, us, u, h, hx, hv => by
    rw [show us = [] from hv]
    simp only [maxAll] at h; injection h with h; subst h
    exact ⟨u, rfl, hx⟩
  | y :: vs, x, v, us, u, h, hx, hv => by
    obtain ⟨b, bs, rfl, h1, h2⟩ := hv
    unfold maxAll at h
    split at h
    · rename_i heq; cases heq
    · rename_i heq
      injection heq with e1 e2
      subst e1 e2
      rw [show u = _ from hx, show b = _ from h1]
      obtain ⟨z, h3, h4⟩ := maxAll_run vs _ v bs _ h rfl h2
      exact ⟨z, by simp only [List.foldlM_cons, Builtin.max2, pure_bind]; exact h3, h4⟩
    · cases h
theorem minAll_run {R : Nat → Prop} {ρ : Rho} {n : Nat} {w : World} : ∀ (vs : List SV) (x v : SV) (us : List Value) (u : Value), minAll x vs = some v → Rep R ρ n w x u → RepL R ρ n w vs us → ∃ y, (us.foldlM Builtin.min2 u).run P w = .ok y w ∧ Rep R ρ n w v y
  | [], x, v, us, u, h, hx, hv => by
    rw [show us = [] from hv]
    simp only [minAll] at h; injection h with h; subst h
    exact ⟨u, rfl, hx⟩
  | y :: vs, x, v, us, u, h, hx, hv => by
    obtain ⟨b, bs, rfl, h1, h2⟩ := hv
    unfold minAll at h
    split at h
    · rename_i heq; cases heq
    · rename_i heq
      injection heq with e1 e2
      subst e1 e2
      rw [show u = _ from hx, show b = _ from h1]
      obtain ⟨z, h3, h4⟩ := minAll_run vs _ v bs _ h rfl h2
      exact ⟨z, by simp only [List.foldlM_cons, Builtin.min2, pure_bind]; exact h3, h4⟩
    · cases h

theorem opBuiltin_sound (hE : EOK P E) {b : Builtin} {ts : List TypeId} {vs : List SV} {p : Plan} {m : Mem} {κ : Kont α} (h : (opBuiltin E b ts vs p m κ).holds L) :
    ∃ v p' m', (κ v p' m').holds L ∧ (b ≠ .append → m' = m) ∧ (b = .len → ∀ m2, Shape m m2 → ∀ ty cs w0 R0 ρ w (us : List Value), MRel w0 R0 ρ w m2 → RepL (RO w0 R0 ρ w m2) ρ m2.next w vs us →
      ∃ u w', (Go.builtin b ts.toArray ty cs us.toArray).run P w = .ok (.value u) w' ∧ OpOut w0 R0 ρ w m2 v m2 u w') ∧ ∀ ty cs w0 R0 ρ w (us : List Value), MRel w0 R0 ρ w m → RepL (RO w0 R0 ρ w m) ρ m.next w vs us →
      ∃ u w', (Go.builtin b ts.toArray ty cs us.toArray).run P w = .ok (.value u) w' ∧ OpOut w0 R0 ρ w m v m' u w' := by
  unfold opBuiltin at h
  split at h
  · rename_i t x
    obtain ⟨v, h1, h2⟩ := opLen_sound hE h
    have key : ∀ m2, Shape m m2 → ∀ ty (cs : Array Bool) w0 R0 ρ w (us : List Value), MRel w0 R0 ρ w m2 → RepL (RO w0 R0 ρ w m2) ρ m2.next w [x] us →
      ∃ u w', (Go.builtin .len [t].toArray ty cs us.toArray).run P w = .ok (.value u) w' ∧ OpOut w0 R0 ρ w m2 v m2 u w' := ?key
    exact ⟨v, p, m, h1, fun _ => rfl, fun _ m2 hsh ty cs => key m2 hsh ty cs, fun ty cs => key m (Shape.refl m) ty cs⟩
    intro m2 hsh ty cs w0 R0 ρ w us hm hus
    obtain ⟨u, us', rfl, h3, h4⟩ := hus
    rw [show us' = [] from h4]
    obtain ⟨y, h5, h6⟩ := h2 m2 hsh [t].toArray ty w0 R0 ρ w u (by simp) hm h3
    have h5' : (Builtin.len_ #[t] ty #[u]).run P w = .ok y w := h5
    exact ⟨y, w, by simp [Go.builtin, h5'], OpOut.same hm h6⟩
  · rename_i t t1 s x
    have key : ∀ (hE1 : (∃ e', P.underlying t1 = some (.slice e')) ∨ P.underlying t1 = some .string), (opAppend E t s x p m κ).holds L → ∃ v p' m', (κ v p' m').holds L ∧ (Builtin.append ≠ .append → m' = m) ∧ (Builtin.append = .len → ∀ m2, Shape m m2 → ∀ ty cs w0 R0 ρ w (us : List Value), MRel w0 R0 ρ w m2 → RepL (RO w0 R0 ρ w m2) ρ m2.next w [s, x] us →
      ∃ u w', (Go.builtin .append [t, t1].toArray ty cs us.toArray).run P w = .ok (.value u) w' ∧ OpOut w0 R0 ρ w m2 v m2 u w') ∧ ∀ ty cs w0 R0 ρ w (us : List Value), MRel w0 R0 ρ w m → RepL (RO w0 R0 ρ w m) ρ m.next w [s, x] us →
      ∃ u w', (Go.builtin .append [t, t1].toArray ty cs us.toArray).run P w = .ok (.value u) w' ∧ OpOut w0 R0 ρ w m v m' u w' := by
      intro hE1 h
      obtain ⟨v, p', m', h1, h2⟩ := opAppend_sound hE h
      refine ⟨v, p', m', h1, fun hn => absurd rfl hn, (fun hn => by cases hn), fun ty cs w0 R0 ρ w us hm hus => ?_⟩
      obtain ⟨u, us', rfl, h3, y, us2, rfl, h4, h5⟩ := hus
      rw [show us2 = [] from h5]
      obtain ⟨z, w', h6, h7⟩ := h2 [t, t1].toArray ty w0 R0 ρ w u y (fun e he => ⟨by simp, t1, by simp, hE1⟩) hm h3 h4
      have h6' : (Builtin.append_ #[t, t1] ty #[u, y]).run P w = .ok z w' := h6
      exact ⟨z, w', by simp [Go.builtin, h6'], h7⟩
    split at h
    · rename_i e sz by_ ze ty eg he hr
      exact key (.inl ⟨e, (hE.row _ _ hr).und⟩) h
    · rename_i sz by_ ze ty eg he hr
      exact key (.inr (hE.row _ _ hr).und) h
    · exact h.elim
  · rename_i v vs
    split at h
    · rename_i y hy
      refine ⟨y, p, m, h, fun _ => rfl, (fun hn => by cases hn), fun ty cs w0 R0 ρ w us hm hus => ?_⟩
      obtain ⟨u, us', rfl, h3, h4⟩ := hus
      obtain ⟨z, h5, h6⟩ := maxAll_run (P := P) vs v y us' u hy h3 h4
      exact ⟨z, w, by simp [Go.builtin, Builtin.max_, h5], OpOut.same hm h6⟩
    · exact h.elim
  · rename_i v vs
    split at h
    · rename_i y hy
      refine ⟨y, p, m, h, fun _ => rfl, (fun hn => by cases hn), fun ty cs w0 R0 ρ w us hm hus => ?_⟩
      obtain ⟨u, us', rfl, h3, h4⟩ := hus
      obtain ⟨z, h5, h6⟩ := minAll_run (P := P) vs v y us' u hy h3 h4
      exact ⟨z, w, by simp [Go.builtin, Builtin.min_, h5], OpOut.same hm h6⟩
    · exact h.elim
  · exact h.elim

/-! ### Structs, arrays and slices that are written out -/

theorem fill_over (cells : Array Value) (off : Nat) (vs : Array Value) (h : off + vs.toList.length ≤ cells.size) : vs.zipIdx.foldl (fun cs (c, j) => cs.setIfInBounds (off + j) c) cells = overA cells off vs.toList := by
  rw [← Array.foldl_toList, Array.toList_zipIdx]
  obtain ⟨h1, h2⟩ := Great.foldl_set off vs.toList 0 cells
  apply Array.ext_getElem?
  intro k
  rw [overA_get h]
  have := h2 k
  simp only [Nat.add_zero] at this
  rw [this]
  by_cases hk : off ≤ k ∧ k < off + vs.toList.length
  · rw [if_pos ⟨hk.1, hk.2, by omega⟩, if_pos hk]
  · rw [if_neg (fun h => hk ⟨h.1, h.2.1⟩), if_neg hk]

/-- Parts with their places. -/
def PR (R : Nat → Prop) (ρ : Rho) (n : Nat) (w : World) : List (Nat × SV) → List (Nat × Value) → Prop
  | [], vs => vs = []
  | x :: xs, vs => ∃ u us, vs = (x.1, u) :: us ∧ Rep R ρ n w x.2 u ∧ PR R ρ n w xs us

theorem PR.map {R : Nat → Prop} {ρ : Rho} {n : Nat} {w : World} (ev : Operand → SV) (eb : Operand → Value) : ∀ xs : List (Nat × Operand), (∀ x ∈ xs, Rep R ρ n w (ev x.2) (eb x.2)) → PR R ρ n w (xs.map fun x => (x.1, ev x.2)) (xs.map fun x => (x.1, eb x.2))
  | [], _ => rfl
  | x :: xs, h => ⟨_, _, rfl, h x List.mem_cons_self, PR.map ev eb xs fun y hy => h y (List.mem_cons_of_mem _ hy)⟩

theorem fillK_holds (place : Nat → Option (Nat × Nat)) : ∀ (parts : List (Nat × SV)) (cs : List SV) (k : List SV → Tree α), (fillK place cs parts k).holds L →
    ∃ cs', (k cs').holds L ∧ ∀ (R : Nat → Prop) (ρ : Rho) (n : Nat) (w : World) (vs : List (Nat × Value)) (arr : Array Value), PR R ρ n w parts vs → RepL R ρ n w cs arr.toList → ∃ arr', Instr.fill place arr vs = some arr' ∧ RepL R ρ n w cs' arr'.toList
  | [], cs, k, h => ⟨cs, h, fun R ρ n w vs arr hv hc => by rw [show vs = [] from hv]; exact ⟨arr, rfl, hc⟩⟩
  | x :: parts, cs, k, h => by
    change (match place x.1 with
      | some os => match os.2 == x.2.cells.length && all1 x.2.cells && Nat.ble 1 os.2 with
        | true => overK cs os.1 x.2.cells fun cs => fillK place cs parts k
        | false => .fail 94
      | none => .fail 95 : Tree α).holds L at h
    split at h
    · rename_i os hos
      split at h
      · rename_i hsz
        simp only [Bool.and_eq_true, beq_iff_eq, Nat.ble_eq] at hsz
        obtain ⟨⟨hs1, hs2⟩, hs3⟩ := hsz
        rcases overK_holds _ _ _ _ h with ⟨h0, _⟩ | ⟨h0, h1⟩
        · rw [h0] at hs1; simp at hs1; omega
        obtain ⟨cs', h3, h4⟩ := fillK_holds place parts _ k h1
        refine ⟨cs', h3, fun R ρ n w vs arr hv hc => ?_⟩
        obtain ⟨u, us, rfl, h5, h6⟩ := hv
        obtain ⟨h7, h8⟩ := h5.cells hs2
        have hl := h7.length
        have hal := hc.length
        have hfit : os.1 + u.cells.toList.length ≤ arr.size := by
          rw [hl]; rw [Array.length_toList] at hal; omega
        have e1 : u.cells.size = os.2 := by rw [hs1, ← hl]; simp
        have e2 : ¬ os.1 + u.cells.size > arr.size := by rw [Array.length_toList] at hfit; omega
        have e3 : ¬ os.1 + os.2 > arr.size := by rw [← e1]; exact e2
        simp only [Instr.fill, hos, e1, ne_eq, not_true_eq_false, decide_false, Bool.false_or, e3, Bool.false_eq_true, if_false]
        rw [fill_over _ _ _ hfit]
        exact h4 R ρ n w us _ h6 (over_rep hc h7)
      · exact h.elim
    · exact h.elim

theorem placesOf_run (hE : EOK P E) (w : World) : ∀ (fs : List Field) (pl : List (Nat × Nat)), placesOf E fs = some pl → (fs.mapM (fun f => do pure (f.offset, ← sizeOf f.type)) : Sem (List (Nat × Nat))).run P w = .ok pl w
  | [], pl, h => by
    have : some [] = some pl := h
    injection this with this; subst this; rfl
  | f :: fs, pl, h => by
    change (match E.row f.type, placesOf E fs with
      | some r, some l => some ((f.offset, r.size) :: l)
      | _, _ => none) = some pl at h
    split at h
    · rename_i r l hr hl
      injection h with h; subst h
      simp only [List.mapM_cons, Sem.run_bind, run_sizeOf' (hE.row _ _ hr), Result.andThen_ok, Sem.run_pure, placesOf_run hE w fs l hl]
    · cases h

theorem opBuild_sound (hE : EOK P E) {t : TypeId} {parts : List (Nat × SV)} {p : Plan} {m : Mem} {κ : Kont α} (h : (opBuild E t parts p m κ).holds L) :
    ∃ v, (κ v p m).holds L ∧ ∀ (m : Mem) w0 R0 ρ w (vs : List (Nat × Value)), PR (RO w0 R0 ρ w m) ρ m.next w parts vs → Plainly P m v (Instr.build t vs.toArray) w0 R0 ρ w := by
  unfold opBuild at h
  split at h
  · rename_i r hr
    have hok := hE.row _ _ hr
    have hu := hok.und
    obtain ⟨z, hz1, hz2, _⟩ := run_zero' hok
    split at h
    · rename_i fs hd
      rw [hd] at hu
      split at h
      · rename_i pl hpl
        obtain ⟨cs', h1, h2⟩ := fillK_holds _ _ _ _ h
        refine ⟨_, h1, fun m w0 R0 ρ w vs hv => ?_⟩
        obtain ⟨arr', h3, h4⟩ := h2 _ _ _ _ _ z.cells hv (hz2 _ _ _ _)
        have hp := placesOf_run hE w fs.toList pl hpl
        have hpl' : ∀ i, (pl.toArray[i]? : Option (Nat × Nat)) = nth pl i := fun i => by rw [nth_eq]; simp
        refine ⟨.agg arr', ?_, _, rfl, h4⟩
        simp only [Instr.build, Sem.run_bind, hz1, Result.andThen_ok, run_underlying hu]
        rw [Array.mapM_eq_mapM_toList, Sem.run_map, hp]
        simp only [Result.andThen_ok, hpl']
        rw [h3]; rfl
      · exact h.elim
    · rename_i n e hd
      rw [hd] at hu
      split at h
      · rename_i re hre
        obtain ⟨cs', h1, h2⟩ := fillK_holds _ _ _ _ h
        refine ⟨_, h1, fun m w0 R0 ρ w vs hv => ?_⟩
        obtain ⟨arr', h3, h4⟩ := h2 _ _ _ _ _ z.cells hv (hz2 _ _ _ _)
        refine ⟨.agg arr', ?_, _, rfl, h4⟩
        simp only [Instr.build, Sem.run_bind, hz1, Result.andThen_ok, run_underlying hu, run_sizeOf' (hE.row _ _ hre)]
        rw [h3]; rfl
      · exact h.elim
    · exact h.elim
  · exact h.elim

theorem repeat_rep {R : Nat → Prop} {ρ : Rho} {n : Nat} {w : World} {z : List SV} {zs : List Value} (h : RepL R ρ n w z zs) : ∀ k, RepL R ρ n w (repeatL z k) ((List.range (k * zs.length)).map fun i => zs.getD (i % zs.length) default)
  | 0 => by simp [repeatL, RepL]
  | k + 1 => by
    have ih := repeat_rep h k
    rcases Nat.eq_zero_or_pos zs.length with h0 | h0
    · have hz : z = [] := List.eq_nil_of_length_eq_zero (by rw [← h.length]; exact h0)
      have : ∀ j, repeatL z j = [] := by
        intro j; induction j with
        | zero => rfl
        | succ j ih => simp [repeatL, hz] at ih ⊢; exact ih
      rw [this, h0]; simp [RepL]
    · have e : (List.range ((k + 1) * zs.length)).map (fun i => zs.getD (i % zs.length) default) = zs ++ (List.range (k * zs.length)).map fun i => zs.getD (i % zs.length) default := by
        rw [Nat.succ_mul, Nat.add_comm, List.range_add, List.map_append, List.map_map]
        congr 1
        · apply List.ext_getElem?
          intro j
          by_cases hj : j < zs.length
          · simp [hj, Nat.mod_eq_of_lt hj]
          · simp [hj]
        · apply List.map_congr_left
          intro j _
          simp
      rw [e]
      exact h.append ih

theorem opBuildSlice_sound (hE : EOK P E) {t : TypeId} {n : Nat} {parts : List (Nat × SV)} {p : Plan} {m : Mem} {κ : Kont α} (h : (opBuildSlice E t n parts p m κ).holds L) :
    ∃ v m', (κ v p m').holds L ∧ ∀ w0 R0 ρ w (vs : List (Nat × Value)), MRel w0 R0 ρ w m → PR (RO w0 R0 ρ w m) ρ m.next w parts vs → Yields' P m v m' (Instr.buildSlice t n vs.toArray) w0 R0 ρ w := by
  unfold opBuildSlice at h
  split at h
  · rename_i e sz by_ ze ty eg he hr
    have hu := (hE.row _ _ hr).und
    dsimp only at hu
    split at h
    · rename_i re hre
      have hok := hE.row _ _ hre
      obtain ⟨z, hz1, hz2, _⟩ := run_zero' hok
      split at h
      · rename_i hs
        simp only [Bool.and_eq_true, decide_eq_true_eq] at hs
        obtain ⟨cs', h1, h2⟩ := fillK_holds _ _ _ _ h
        obtain ⟨m', h3, h4⟩ := Mem.push_holds h1
        refine ⟨_, m', h4, fun w0 R0 ρ w vs hm hv => ?_⟩
        have hzl : z.cells.toList.length = re.size := by
          rw [(hz2 (RO w0 R0 ρ w m) ρ m.next w).length]; exact hs.2
        have hrep := repeat_rep (hz2 (RO w0 R0 ρ w m) ρ m.next w) n
        -- the zero cells
        have hzero : ∃ zs : Array Value, ((n * re.size = 0 ∧ zs = #[]) ∨ (¬ n * re.size = 0 ∧ zs = z.cells)) ∧ ((Array.range (n * re.size)).map (zs[· % zs.size]!)).toList = (List.range (n * z.cells.toList.length)).map fun i => z.cells.toList.getD (i % z.cells.toList.length) default := by
          by_cases h0 : n * re.size = 0
          · refine ⟨#[], .inl ⟨h0, rfl⟩, ?_⟩
            rw [hzl, h0]; simp
          · refine ⟨z.cells, .inr ⟨h0, rfl⟩, ?_⟩
            rw [hzl]
            have hsz : z.cells.size = re.size := by rw [← hzl]; simp
            simp only [Array.toList_map, Array.toList_range]
            apply List.map_congr_left
            intro i _
            rw [hsz]
            have : re.size ≠ 0 := fun hc => h0 (by rw [hc]; simp)
            have hi : i % re.size < z.cells.size := by rw [hsz]; exact Nat.mod_lt _ (by omega)
            simp [List.getD, getElem!_pos, hi]
        obtain ⟨zs, q1, q2⟩ := hzero
        obtain ⟨arr', h5, h6⟩ := h2 _ _ _ _ _ ((Array.range (n * re.size)).map (zs[· % zs.size]!)) hv (by rw [q2]; exact hrep)
        obtain ⟨g1, g2⟩ := hm.alloc (o := .cells arr' e) h3 n n (fun R n' ρ' e' => ⟨arr', e, (0, 0), heap_alloc_new w _, unfrozen_zero _, RepL.mono e' _ _ h6⟩)
        refine ⟨.slice (some ⟨w.heap.size, 0, none⟩) n n, w.alloc (.cells arr' e), ?_, _, g1, g2, by rw [h3.2]; omega, by rw [upd_same]⟩
        have hbig : ¬ n * re.size > 2 ^ 24 := by have := hs.1; omega
        simp only [Instr.buildSlice, Sem.run_bind, run_underlying hu, Result.andThen_ok, run_sizeOf' hok, hbig, if_false, pure_bind]
        rcases q1 with ⟨h0, rfl⟩ | ⟨h0, rfl⟩
        · rw [if_pos h0, h5]
          simp [newRow]
        · rw [if_neg h0]
          simp only [Sem.run_bind, hz1, Result.andThen_ok]
          rw [h5]
          simp [newRow]
      · exact h.elim
    · exact h.elim
  · exact h.elim

theorem opMakeSlice_sound (hE : EOK P E) {t : TypeId} {len cap : SV} {p : Plan} {m : Mem} {κ : Kont α} (h : (opMakeSlice E t len cap p m κ).holds L) :
    ∃ v m', (κ v p m').holds L ∧ ∀ w0 R0 ρ w (lv cv : Value), MRel w0 R0 ρ w m → Rep (RO w0 R0 ρ w m) ρ m.next w len lv → Rep (RO w0 R0 ρ w m) ρ m.next w cap cv → Yields' P m v m' (Instr.makeSlice t lv cv) w0 R0 ρ w := by
  unfold opMakeSlice at h
  split at h
  · rename_i n c
    split at h
    · rename_i e sz by_ ze ty eg he hr
      have hu := (hE.row _ _ hr).und
      dsimp only at hu
      split at h
      · rename_i de size bytes ze' u eg' he' hre
        have hok := hE.row _ _ hre
        obtain ⟨z, hz1, hz2, hz3⟩ := run_zero' hok
        obtain ⟨i, hi, hib, his⟩ := run_typeInfo' hok
        split at h
        · rename_i hs
          have hs' : size = u.sz := by simpa using hs
          obtain ⟨hb, h⟩ := h
          simp only [Bool.and_eq_true, decide_eq_true_eq, beq_iff_eq] at hb
          obtain ⟨⟨⟨hb1, hb2⟩, hb3⟩, hb4⟩ := hb
          obtain ⟨m', h1, h2⟩ := Mem.push_holds h
          refine ⟨_, m', h2, fun w0 R0 ρ w lv cv hm hl hc => ?_⟩
          rw [show lv = _ from hl, show cv = _ from hc, ← hb2]
          have hw : IntKind.i64.wrap n = n := by
            unfold IntKind.wrap
            simp only [IntKind.signed, IntKind.bits]
            have : n % (2 ^ 64 : Int) = n := Int.emod_eq_of_lt hb1 (by omega)
            simp only [this]
            rw [if_neg (by simp; omega)]
          have hzl := (RepD.flat (ρ := ρ) (n := 0) u u.dflt _ (hz3 u rfl (fun _ => True) w)).1
          have hzs : z.cells.size = size := by rw [hs']; simpa using hzl
          have hdl : ∀ k, RepDL (RO w0 R0 ρ w m) w u (List.replicate k u.dflt) ((List.range (k * size)).map fun i => z.cells.toList.getD (i % size) default) := by
            intro k
            refine Elems.repDL (by simp [hs']) fun i hi' => ?_
            rw [List.length_replicate] at hi'
            refine ⟨z.cells.toList, hzl, fun j hj => ?_, by simpa using hz3 u rfl _ _⟩
            have hlt : i * u.sz + j < k * size := by
              have : (i + 1) * u.sz ≤ k * size := by rw [hs']; exact Nat.mul_le_mul_right _ hi'
              rw [Nat.succ_mul] at this; omega
            have hmod : (i * u.sz + j) % size = j := by
              rw [hs', Nat.mul_comm, Nat.mul_add_mod]; exact Nat.mod_eq_of_lt hj
            dsimp only
            rw [List.getElem?_map, List.getElem?_range hlt, Option.map_some, hmod]
            have hjl : j < z.cells.toList.length := by omega
            rw [List.getD_eq_getElem?_getD, List.getElem?_eq_getElem hjl]
            rfl
          have hzero : ∃ zs : Array Value, ((n.toNat * size = 0 ∧ zs = #[]) ∨ (¬ n.toNat * size = 0 ∧ zs = z.cells)) ∧ ((Array.range (n.toNat * size)).map (zs[· % zs.size]!)).toList = (List.range (n.toNat * size)).map fun i => z.cells.toList.getD (i % size) default := by
            by_cases h0 : n.toNat * size = 0
            · refine ⟨#[], .inl ⟨h0, rfl⟩, ?_⟩
              rw [h0]; simp
            · refine ⟨z.cells, .inr ⟨h0, rfl⟩, ?_⟩
              simp only [Array.toList_map, Array.toList_range]
              apply List.map_congr_left
              intro k _
              rw [hzs]
              have : size ≠ 0 := fun hc => h0 (by rw [hc]; simp)
              have hk : k % size < z.cells.size := by rw [hzs]; exact Nat.mod_lt _ (by omega)
              simp [List.getD, getElem!_pos, hk]
          obtain ⟨zs, q1, q2⟩ := hzero
          have hkey := push_rows (u := u) (l := List.replicate n.toNat u.dflt) (cap := n.toNat) (vs := (List.range (n.toNat * size)).map fun i => z.cells.toList.getD (i % size) default) (rest := [])
            (w1 := w.alloc (.cells ((Array.range (n.toNat * size)).map (zs[· % zs.size]!)) e)) hm h1 rfl rfl rfl (by simp) (fun k hk => Below.heap_alloc w _ k hk) (heap_alloc_new w _) (unfrozen_zero _) (by simp [hs']) (by simp) (by rw [q2]; simp) (hdl _)
          refine ⟨_, _, ?_, by simpa using hkey⟩
          have t1 : ¬ n < 0 := by omega
          have t2 : ¬ (281474976710656 < (i.bytes : Int) * n) := by
            have e1 : (i.bytes : Int) = (bytes : Int) := by rw [hib]
            rw [e1]; omega
          have hsr := run_sizeOf' hok
          dsimp only at hsr
          simp only [Instr.makeSlice, Sem.run_bind, run_underlying hu, Result.andThen_ok, asInt, asIntOf, Sem.run_pure, hi, hw]
          rw [if_neg (by simp; omega)]
          simp only [Sem.run_bind, run_askRoom, Result.andThen_ok, hsr, pure_bind]
          rcases q1 with ⟨h0, rfl⟩ | ⟨h0, rfl⟩
          · rw [if_pos h0]
            simp [newRow]
          · rw [if_neg h0]
            simp only [Sem.run_bind, hz1, Result.andThen_ok]
            simp [newRow]
        · exact h.elim
      · exact h.elim
    · exact h.elim
  · exact h.elim

/-! ### Ranges over strings -/

theorem opRange_sound {x : SV} {p : Plan} {m : Mem} {κ : Kont α} (h : (opRange x p m κ).holds L) :
    ∃ v m', (κ v p m').holds L ∧ ∀ t w0 R0 ρ w (xv : Value), P.underlying t = some .string → MRel w0 R0 ρ w m → Rep (RO w0 R0 ρ w m) ρ m.next w x xv → Yields' P m v m' (Instr.range t xv) w0 R0 ρ w := by
  unfold opRange at h
  split at h
  · rename_i s
    obtain ⟨m', h1, h2⟩ := Mem.push_holds h
    refine ⟨_, m', h2, fun t w0 R0 ρ w xv hu hm hx => ?_⟩
    rw [show xv = _ from hx]
    obtain ⟨g1, g2⟩ := hm.alloc (o := .stringIter ⟨⟨s⟩⟩ 0) h1 0 0 (fun R n' ρ' e' => heap_alloc_new w _)
    refine ⟨.pointer (some ⟨w.heap.size, 0, none⟩), _, ?_, _, g1, g2, by rw [h1.2]; omega, by rw [upd_same]⟩
    simp [Instr.range, run_underlying hu]
  · exact h.elim

theorem opNext_sound {x : SV} {p : Plan} {m : Mem} {κ : Kont α} (h : (opNext x p m κ).holds L) :
    ∃ v p' m', (κ v p' m').holds L ∧ ∀ t w0 R0 ρ w (xv : Value), MRel w0 R0 ρ w m → Rep (RO w0 R0 ρ w m) ρ m.next w x xv → Yields' P m v m' (Instr.next xv true t) w0 R0 ρ w := by
  unfold opNext at h
  split at h
  · rename_i id
    split at h
    · rename_i s pos hg
      obtain ⟨p', h⟩ := dec_holds h
      have hb : ∀ w0 R0 ρ w, MRel w0 R0 ρ w m → w.heap[(ρ id).1]? = some (.stringIter ⟨⟨s⟩⟩ pos) := fun w0 R0 ρ w hm => hm.box id _ hg
      by_cases hlt : pos < s.length
      · rw [decide_eq_true hlt] at h
        dsimp only at h
        obtain ⟨m', h1, h2⟩ := Mem.set_holds h
        refine ⟨_, p', m', h2, fun t w0 R0 ρ w xv hm hx => ?_⟩
        obtain ⟨hid, rfl⟩ := hx
        have hh := hb w0 R0 ρ w hm
        have hsz : (ByteArray.mk ⟨s⟩).size = s.length := rfl
        have hlb : (ρ id).1 < w.heap.size := hm.hi id _ hg trivial
        refine ⟨.tuple #[.bool true, .int .i64 pos, .int .i32 (Utf8.decode ⟨⟨s⟩⟩ pos).1], { w with heap := w.heap.setIfInBounds (ρ id).1 (.stringIter ⟨⟨s⟩⟩ (pos + (Utf8.decode ⟨⟨s⟩⟩ pos).2)) }, ?_, ρ, ?_⟩
        · simp only [Instr.next, Sem.run_bind, getObj, Sem.run, hh, Result.andThen_ok, hsz, hlt, if_true, setObj, goInt]
          rfl
        · obtain ⟨g1, g2⟩ := hm.setBox (w' := { w with heap := w.heap.setIfInBounds (ρ id).1 (.stringIter ⟨⟨s⟩⟩ (pos + (Utf8.decode ⟨⟨s⟩⟩ pos).2)) }) hg trivial h1 rfl rfl rfl (by simp) (fun k hk => by simp [Array.getElem?_setIfInBounds, Ne.symm hk]) (fun R e' => by simp [BoxRel, Array.getElem?_setIfInBounds, hlb])
          exact ⟨g1, g2, _, rfl, _, _, rfl, rfl, _, _, rfl, rfl, _, _, rfl, rfl, rfl⟩
      · rw [decide_eq_false hlt] at h
        dsimp only at h
        refine ⟨_, p', m, h, fun t w0 R0 ρ w xv hm hx => ?_⟩
        obtain ⟨hid, rfl⟩ := hx
        have hh := hb w0 R0 ρ w hm
        have hsz : (ByteArray.mk ⟨s⟩).size = s.length := rfl
        refine Plainly.yields ⟨.tuple #[.bool false], ?_, _, rfl, _, _, rfl, rfl, rfl⟩ hm
        simp only [Instr.next, Sem.run_bind, getObj, Sem.run, hh, Result.andThen_ok, hsz, hlt, if_false]
        rfl
    · exact h.elim
  · exact h.elim
end
end Go.Sx
set_option linter.unusedSimpArgs false
set_option linter.unusedVariables false
namespace Go.Sx
open Go.RowKit
section
variable {P : Program} {E : Env} {α : Type}

/-- What an operation of the model hands on. -/
def OpPost (P : Program) (Φ : Value → World → Prop) : Result Next → Prop
  | .ok (.value v) w => Φ v w
  | .ok .skip w => Φ Go.undef w
  | .ok (.enter f args) w => Calls P f args w fun e w' => ∃ v, e = .returned v ∧ Φ v w'
  | _ => False

theorem OpPost.mono {Φ Ψ : Value → World → Prop} (h : ∀ v w, Φ v w → Ψ v w) : ∀ {r : Result Next}, OpPost P Φ r → OpPost P Ψ r
  | .ok (.value v) w, k => h v w k
  | .ok .skip w, k => h _ w k
  | .ok (.enter f args) w, k => Calls.mono k fun e w' ⟨v, he, hv⟩ => ⟨v, he, h v w' hv⟩

/-- An operation, by its values: whatever the world. -/
def SemOp (P : Program) (m : Mem) (v : SV) (m' : Mem) (o : Oper) (ev : Operand → SV) : Prop :=
  ∀ w0 R0 ρ w (eb : Operand → Value), MRel w0 R0 ρ w m → (∀ x ∈ o.op.operands, Rep (RO w0 R0 ρ w m) ρ m.next w (ev x) (eb x)) → OpPost P (OpOut w0 R0 ρ w m v m') ((Go.execOp eb o).run P w)

/-- A call, by its values. -/
def SemCall (P : Program) (m : Mem) (v : SV) (m' : Mem) (f : FuncId) (args : List SV) : Prop :=
  ∀ w0 R0 ρ w (vs : List Value), MRel w0 R0 ρ w m → RepL (RO w0 R0 ρ w m) ρ m.next w args vs → OpPost P (OpOut w0 R0 ρ w m v m') ((Go.callFunc f vs.toArray).run P w)

/-- What is asked of the handler of calls (Q: nothing of the memory turns). -/
def CallOK (P : Program) (Q : Bool) (call : CallK α) : Prop :=
  ∀ f args p m (κ : Kont α) (L : α → Prop), (call f args p m κ).holds L → ∃ v p' m', (κ v p' m').holds L ∧ (Q = true → m' = m ∧ ∀ m2, SemCall P m2 v m2 f args) ∧ SemCall P m v m' f args

theorem post_value {Φ : Value → World → Prop} {s : Sem Value} {w : World} {u : Value} {w' : World} (h : s.run P w = .ok u w') (hΦ : Φ u w') : OpPost P Φ ((do pure (Next.value (← s)) : Sem Next).run P w) := by
  simp only [Sem.run_bind, h, Result.andThen_ok, Sem.run_pure]; exact hΦ

theorem ofLeaf_rep (v : Value) (R : Nat → Prop) (ρ : Rho) (n : Nat) (w : World) : Rep R ρ n w (ofLeaf v) v := by
  unfold ofLeaf
  split <;> rfl
theorem ofLeafs_rep (R : Nat → Prop) (ρ : Rho) (n : Nat) (w : World) : ∀ vs : List Value, RepL R ρ n w (vs.map ofLeaf) vs
  | [] => rfl
  | v :: vs => ⟨v, vs, rfl, ofLeaf_rep v R ρ n w, ofLeafs_rep R ρ n w vs⟩
theorem ofVal_rep (v : Value) (R : Nat → Prop) (ρ : Rho) (n : Nat) (w : World) : Rep R ρ n w (ofVal v) v := by
  unfold ofVal
  split
  · rename_i cs
    exact ⟨cs.toList, rfl, ofLeafs_rep R ρ n w _⟩
  · rename_i f a c
    split
    · rename_i ha hc
      refine ⟨[], [], ?_, rfl, rfl⟩
      have h1 : a = #[] := by apply Array.ext'; simpa using ha
      have h2 : c = #[] := by apply Array.ext'; simpa using hc
      rw [h1, h2]
    · rfl
  · exact ofLeaf_rep _ R ρ n w

theorem clash {b : Bool} {p : Prop} (h : b = false) (k : b = true) : p := by rw [h] at k; cases k
/-- What more is known of one operation: where else it does the same, and what it leaves of the memory. -/
structure Extra (P : Program) (Q : Bool) (m : Mem) (v : SV) (m' : Mem) (o : Oper) (ev : Operand → SV) : Prop where
  pure : pureOp o.op = true → ∀ m2, SemOp P m2 v m2 o ev
  shape : shapeOp o.op = true → ∀ m2, Shape m m2 → SemOp P m2 v m2 o ev
  up : Q = true → upOp o.op = true → ∀ m2, Up m m2 → SemOp P m2 v m2 o ev
  store : isStore o.op = true → Shape m m' ∧ Shape m' m
  alloc : isAlloc o.op = true → m.get m.next = none → Up m m'

theorem Extra.ofPure {P : Program} {Q : Bool} {m : Mem} {v : SV} {o : Oper} {ev : Operand → SV} (h1 : shapeOp o.op = false) (h2 : upOp o.op = false) (h3 : isStore o.op = false) (h4 : isAlloc o.op = false) (h : ∀ m2, SemOp P m2 v m2 o ev) : SemOp P m v m o ev ∧ Extra P Q m v m o ev :=
  ⟨h m, fun _ => h, fun k => clash h1 k, fun _ k => clash h2 k, fun k => clash h3 k, fun k => clash h4 k⟩
theorem Extra.none {P : Program} {Q : Bool} {m m' : Mem} {v : SV} {o : Oper} {ev : Operand → SV} (h0 : pureOp o.op = false) (h1 : shapeOp o.op = false) (h2 : upOp o.op = false) (h3 : isStore o.op = false) (h4 : isAlloc o.op = false) : Extra P Q m v m' o ev :=
  ⟨fun k => clash h0 k, fun k => clash h1 k, fun _ k => clash h2 k, fun k => clash h3 k, fun k => clash h4 k⟩
theorem Extra.ofShape {P : Program} {Q : Bool} {m : Mem} {v : SV} {o : Oper} {ev : Operand → SV} (h1 : pureOp o.op = false) (h2 : upOp o.op = false) (h3 : isStore o.op = false) (h4 : isAlloc o.op = false) (h : ∀ m2, Shape m m2 → SemOp P m2 v m2 o ev) : SemOp P m v m o ev ∧ Extra P Q m v m o ev :=
  ⟨h m (Shape.refl m), fun k => clash h1 k, fun _ => h, fun _ k => clash h2 k, fun k => clash h3 k, fun k => clash h4 k⟩
theorem Extra.ofUp {P : Program} {Q : Bool} {m : Mem} {v : SV} {o : Oper} {ev : Operand → SV} (h1 : pureOp o.op = false) (h2 : shapeOp o.op = false) (h3 : isStore o.op = false) (h4 : isAlloc o.op = false) (h : ∀ m2, Up m m2 → SemOp P m2 v m2 o ev) : SemOp P m v m o ev ∧ Extra P Q m v m o ev :=
  ⟨h m (Up.refl m), fun k => clash h1 k, fun k => clash h2 k, fun _ _ => h, fun k => clash h3 k, fun k => clash h4 k⟩

theorem execOp_sound (hE : EOK P E) {Q : Bool} {call : CallK α} (hcall : CallOK P Q call) {ev : Operand → SV} {o : Oper} {p : Plan} {m : Mem} {κ : Kont α} {L : α → Prop} (h : (execOp E call ev o.op p m κ).holds L) :
    ∃ v p' m', (κ v p' m').holds L ∧ (Q = true → quiet E o.op = true → m' = m) ∧ (SemOp P m v m' o ev ∧ Extra P Q m v m' o ev) := by
  obtain ⟨dst, op, ty, pos, after, guard⟩ := o
  cases op <;> dsimp only [execOp] at h <;> try exact h.elim
  case move x =>
    rw [frc_eq] at h
    exact ⟨_, p, m, h, fun _ _ => rfl, Extra.ofPure rfl rfl rfl rfl fun m2 w0 R0 ρ w eb hm hev => OpOut.same hm (hev x (by simp [Op.operands, Call.operands]))⟩
  case assign x =>
    rw [frc_eq] at h
    exact ⟨_, p, m, h, fun _ _ => rfl, Extra.ofPure rfl rfl rfl rfl fun m2 w0 R0 ρ w eb hm hev => OpOut.same hm (hev x (by simp [Op.operands, Call.operands]))⟩
  case pick c a b =>
    split at h
    · rename_i cb hc
      obtain ⟨p', h⟩ := dec_holds h
      rw [frc_eq] at h
      refine ⟨_, p', m, h, fun _ _ => rfl, Extra.ofPure rfl rfl rfl rfl fun m2 w0 R0 ρ w eb hm hev => ?_⟩
      have h1 := hev c (by simp [Op.operands, Call.operands])
      rw [hc] at h1
      have h1' : eb c = .bool cb := h1
      simp only [Go.execOp, h1', asBool, pure_bind, Sem.run_pure]
      refine OpOut.same hm ?_
      cases cb
      · exact hev b (by simp [Op.operands, Call.operands])
      · exact hev a (by simp [Op.operands, Call.operands])
    · exact h.elim
  case alloc t =>
    split at h
    · rename_i r hr
      rw [frcL_eq] at h
      obtain ⟨m', h1, h2⟩ := Mem.push_holds h
      have hok := hE.row _ _ hr
      obtain ⟨z, hz1, hz2, _⟩ := run_zero' hok
      refine ⟨_, p, m', h2, fun _ hq => (by cases hq), ⟨fun w0 R0 ρ w eb hm hev => ?_, ⟨(fun k => by cases k), (fun k => by cases k), (fun _ k => by cases k), (fun k => by cases k), fun _ hn => h1.up hn⟩⟩⟩
      obtain ⟨g1, g2⟩ := hm.alloc (o := .cells z.cells t) h1 0 0 (fun R n' ρ' e' => ⟨_, t, (0, 0), heap_alloc_new w _, unfrozen_zero _, hz2 _ _ _ _⟩)
      refine post_value (u := .pointer (some ⟨w.heap.size, 0, none⟩)) (w' := w.alloc (.cells z.cells t)) ?_ ⟨_, g1, g2, by rw [h1.2]; omega, by rw [upd_same]⟩
      simp [Instr.alloc, hz1, newVar, newRow]
    · exact h.elim
  case box t x =>
    split at h
    · rename_i hone
      rw [frcL_eq] at h
      obtain ⟨m', h1, h2⟩ := Mem.push_holds h
      refine ⟨_, p, m', h2, fun _ hq => (by cases hq), ⟨fun w0 R0 ρ w eb hm hev => ?_, Extra.none rfl rfl rfl rfl rfl⟩⟩
      obtain ⟨k1, k2⟩ := (hev x (by simp [Op.operands, Call.operands])).cells hone
      obtain ⟨g1, g2⟩ := hm.alloc (o := .cells (eb x).cells t) h1 0 0 (fun R n' ρ' e' => ⟨_, t, (0, 0), heap_alloc_new w _, unfrozen_zero _, RepL.mono e' _ _ k1⟩)
      refine post_value (u := .pointer (some ⟨w.heap.size, 0, none⟩)) (w' := w.alloc (.cells (eb x).cells t)) ?_ ⟨_, g1, g2, by rw [h1.2]; omega, by rw [upd_same]⟩
      simp [Instr.box, newVar, newRow]
    · exact h.elim
  case build t parts =>
    obtain ⟨v, h1, h2⟩ := opBuild_sound hE h
    refine ⟨v, p, m, h1, fun _ _ => rfl, Extra.ofPure rfl rfl rfl rfl fun m2 w0 R0 ρ w eb hm hev => ?_⟩
    obtain ⟨u, h3, h4⟩ := h2 m2 w0 R0 ρ w (parts.toList.map fun x => (x.1, eb x.2)) (PR.map ev eb _ fun x hx => hev x.2 (by simp only [Op.operands]; simpa using ⟨x.1, by simpa using hx⟩))
    refine post_value (u := u) (w' := w) ?_ (OpOut.same hm h4)
    rw [← h3]
    congr 2
    apply Array.ext'; simp
  case buildSlice t n parts =>
    obtain ⟨v, m', h1, h2⟩ := opBuildSlice_sound hE h
    refine ⟨v, p, m', h1, fun _ hq => (by cases hq), ⟨fun w0 R0 ρ w eb hm hev => ?_, Extra.none rfl rfl rfl rfl rfl⟩⟩
    obtain ⟨u, w', h3, h4⟩ := h2 w0 R0 ρ w (parts.toList.map fun x => (x.1, eb x.2)) hm (PR.map ev eb _ fun x hx => hev x.2 (by simp only [Op.operands]; simpa using ⟨x.1, by simpa using hx⟩))
    refine post_value (u := u) (w' := w') ?_ h4
    rw [← h3]
    congr 2
    apply Array.ext'; simp
  case load t a =>
    obtain ⟨v, h1, h2⟩ := opLoad_sound hE h
    refine ⟨v, p, m, h1, fun _ _ => rfl, Extra.ofUp rfl rfl rfl rfl fun m2 hup w0 R0 ρ w eb hm hev => ?_⟩
    obtain ⟨u, h3, h4⟩ := h2 m2 hup w0 R0 ρ w _ hm (hev a (by simp [Op.operands, Call.operands]))
    exact post_value h3 (OpOut.same hm h4)
  case store t a x =>
    obtain ⟨m', h1, hsh, h2⟩ := opStore_sound hE h
    refine ⟨_, p, m', h1, fun _ hq => (by cases hq), ⟨fun w0 R0 ρ w eb hm hev => ?_, ⟨(fun k => by cases k), (fun k => by cases k), (fun _ k => by cases k), fun _ => hsh, (fun k => by cases k)⟩⟩⟩
    obtain ⟨w', h3, h4, h5⟩ := h2 w0 R0 ρ w _ _ hm (hev a (by simp [Op.operands, Call.operands])) (hev x (by simp [Op.operands, Call.operands]))
    simp only [Go.execOp, Sem.run_bind, h3, Result.andThen_ok, Sem.run_pure]
    exact ⟨ρ, h4, h5, rfl⟩
  case nilCheck x =>
    split at h <;> first
      | exact h.elim
      | (rename_i heq
         refine ⟨_, p, m, h, fun _ _ => rfl, Extra.ofPure rfl rfl rfl rfl fun m2 w0 R0 ρ w eb hm hev => ?_⟩
         have h1 := hev x (by simp [Op.operands, Call.operands])
         rw [heq] at h1
         first
           | (obtain ⟨_, h2⟩ := h1
              have h3 := hev x (by simp [Op.operands, Call.operands])
              rw [heq] at h3
              simp only [Go.execOp, h2, Sem.run_pure]
              rw [h2] at h3
              exact OpOut.same hm h3)
           | (obtain ⟨b, o, h2, h4⟩ := h1
              have h3 := hev x (by simp [Op.operands, Call.operands])
              rw [heq] at h3
              simp only [Go.execOp, h2, Sem.run_pure]
              rw [h2] at h3
              exact OpOut.same hm h3))
  case binOp op t x y ty' =>
    obtain ⟨v, h1, h2⟩ := opBin_sound hE h
    refine ⟨v, p, m, h1, fun _ _ => rfl, Extra.ofPure rfl rfl rfl rfl fun m2 w0 R0 ρ w eb hm hev => ?_⟩
    obtain ⟨u, h3, h4⟩ := h2 m2 w0 R0 ρ w _ _ x y (hev x (by simp [Op.operands, Call.operands])) (hev y (by simp [Op.operands, Call.operands]))
    exact post_value h3 (OpOut.same hm h4)
  case unOp op t x =>
    obtain ⟨v, h1, h2⟩ := opUn_sound (P := P) h
    refine ⟨v, p, m, h1, fun _ _ => rfl, Extra.ofPure rfl rfl rfl rfl fun m2 w0 R0 ρ w eb hm hev => ?_⟩
    obtain ⟨u, h3, h4⟩ := h2 m2 w0 R0 ρ w _ (hev x (by simp [Op.operands, Call.operands]))
    exact post_value h3 (OpOut.same hm h4)
  case convert s d x =>
    obtain ⟨v, m', h1, hq', h2⟩ := opConv_sound hE h
    refine ⟨v, p, m', h1, fun _ hq => hq' fun r e hr hd => ?_, ⟨fun w0 R0 ρ w eb hm hev => ?_, Extra.none rfl rfl rfl rfl rfl⟩⟩
    · simp only [quiet, hr] at hq
      obtain ⟨de, sz, by_, ze, ty', eg, he⟩ := r
      dsimp only at hd
      subst hd
      cases hq
    · obtain ⟨u, w', h3, h4⟩ := h2 w0 R0 ρ w _ hm (hev x (by simp [Op.operands, Call.operands]))
      exact post_value h3 h4
  case makeFunc fn first cap =>
    cases fn <;> try exact h.elim
    case func f =>
      refine ⟨_, p, m, h, fun _ _ => rfl, Extra.ofPure rfl rfl rfl rfl fun m2 w0 R0 ρ w eb hm hev => ?_⟩
      refine post_value (u := .func (.func f) (first.map eb) (cap.map eb)) (w' := w) (by rfl) (OpOut.same hm ⟨first.toList.map eb, cap.toList.map eb, ?_, RepL.map ev eb _ (fun x hx => hev x (by simp [Op.operands] at hx ⊢; simp [hx])), RepL.map ev eb _ fun x hx => hev x (by simp [Op.operands] at hx ⊢; simp [hx])⟩)
      congr 1 <;> (apply Array.ext'; simp)
  case makeSlice t l c =>
    obtain ⟨v, m', h1, h2⟩ := opMakeSlice_sound hE h
    refine ⟨v, p, m', h1, fun _ hq => (by cases hq), ⟨fun w0 R0 ρ w eb hm hev => ?_, Extra.none rfl rfl rfl rfl rfl⟩⟩
    obtain ⟨u, w', h3, h4⟩ := h2 w0 R0 ρ w _ _ hm (hev l (by simp [Op.operands, Call.operands])) (hev c (by simp [Op.operands, Call.operands]))
    exact post_value h3 h4
  case slice t x lo hi mx =>
    obtain ⟨v, m', h1, hq', h2⟩ := opSlice_sound hE h
    refine ⟨v, p, m', h1, fun _ hq => hq' (by cases mx with | none => rfl | some _ => cases hq), ⟨fun w0 R0 ρ w eb hm hev => ?_, Extra.none rfl rfl rfl rfl rfl⟩⟩
    have ho : ∀ y : Option Operand, (∀ z, y = some z → z ∈ (Op.slice t x lo hi mx).operands) → OptRep (RO w0 R0 ρ w m) ρ m.next w (y.map ev) (y.map eb) := fun y hy => by
      cases y with
      | none => trivial
      | some y => exact hev y (hy y rfl)
    obtain ⟨u, w', h3, h4⟩ := h2 w0 R0 ρ w _ (lo.map eb) (hi.map eb) (mx.map eb) hm (hev x (by simp [Op.operands, Call.operands])) (ho lo fun z hz => by simp [Op.operands, hz]) (ho hi fun z hz => by simp [Op.operands, hz]) (ho mx fun z hz => by simp [Op.operands, hz])
    exact post_value h3 h4
  case fieldAddr s x f =>
    obtain ⟨v, h1, h2⟩ := opFieldAddr_sound hE h
    refine ⟨v, p, m, h1, fun _ _ => rfl, Extra.ofPure rfl rfl rfl rfl fun m2 w0 R0 ρ w eb hm hev => ?_⟩
    obtain ⟨u, h3, h4⟩ := h2 m2 w0 R0 ρ w _ (hev x (by simp [Op.operands, Call.operands]))
    exact post_value h3 (OpOut.same hm h4)
  case field s x f =>
    obtain ⟨v, h1, h2⟩ := opField_sound hE h
    refine ⟨v, p, m, h1, fun _ _ => rfl, Extra.ofPure rfl rfl rfl rfl fun m2 w0 R0 ρ w eb hm hev => ?_⟩
    obtain ⟨u, h3, h4⟩ := h2 m2 w0 R0 ρ w _ (hev x (by simp [Op.operands, Call.operands]))
    exact post_value h3 (OpOut.same hm h4)
  case indexAddr t x ix =>
    obtain ⟨v, h1, h2⟩ := opIndexAddr_sound hE h
    refine ⟨v, p, m, h1, fun _ _ => rfl, Extra.ofShape rfl rfl rfl rfl fun m2 hsh w0 R0 ρ w eb hm hev => ?_⟩
    obtain ⟨u, h3, h4⟩ := h2 m2 hsh w0 R0 ρ w _ _ hm (hev x (by simp [Op.operands, Call.operands])) (hev ix (by simp [Op.operands, Call.operands]))
    exact post_value h3 (OpOut.same hm h4)
  case index t x ix =>
    obtain ⟨v, h1, h2⟩ := opIndex_sound hE h
    refine ⟨v, p, m, h1, fun _ _ => rfl, Extra.ofPure rfl rfl rfl rfl fun m2 w0 R0 ρ w eb hm hev => ?_⟩
    obtain ⟨u, h3, h4⟩ := h2 m2 w0 R0 ρ w _ _ (hev x (by simp [Op.operands, Call.operands])) (hev ix (by simp [Op.operands, Call.operands]))
    exact post_value h3 (OpOut.same hm h4)
  case range t x =>
    split at h
    · rename_i sz by_ ze ty' eg he hr
      obtain ⟨v, m', h1, h2⟩ := opRange_sound (P := P) h
      refine ⟨v, p, m', h1, fun _ hq => (by cases hq), ⟨fun w0 R0 ρ w eb hm hev => ?_, Extra.none rfl rfl rfl rfl rfl⟩⟩
      obtain ⟨u, w', h3, h4⟩ := h2 t w0 R0 ρ w _ (hE.row _ _ hr).und hm (hev x (by simp [Op.operands, Call.operands]))
      exact post_value h3 h4
    · exact h.elim
  case next x isString =>
    cases isString with
    | false => exact h.elim
    | true =>
      obtain ⟨v, p', m', h1, h2⟩ := opNext_sound (P := P) h
      refine ⟨v, p', m', h1, fun _ hq => (by cases hq), ⟨fun w0 R0 ρ w eb hm hev => ?_, Extra.none rfl rfl rfl rfl rfl⟩⟩
      obtain ⟨u, w', h3, h4⟩ := h2 ty w0 R0 ρ w _ hm (hev x (by simp [Op.operands, Call.operands]))
      exact post_value h3 h4
  case extract x i =>
    obtain ⟨v, h1, h2⟩ := opExtract_sound (P := P) h
    refine ⟨v, p, m, h1, fun _ _ => rfl, Extra.ofPure rfl rfl rfl rfl fun m2 w0 R0 ρ w eb hm hev => ?_⟩
    obtain ⟨u, h3, h4⟩ := h2 m2 w0 R0 ρ w _ (hev x (by simp [Op.operands, Call.operands]))
    exact post_value h3 (OpOut.same hm h4)
  case call c =>
    unfold opCall at h
    split at h
    · rename_i b hb
      obtain ⟨v, p', m', h1, hq', hsh, h2⟩ := opBuiltin_sound hE h
      refine ⟨v, p', m', h1, fun _ hq => hq' (fun hb' => by obtain ⟨ca, aa, ta⟩ := c; dsimp only at hb; subst hb hb'; cases hq), ⟨fun w0 R0 ρ w eb hm hev => ?_, ?_⟩⟩
      · have key : ∀ cs, OpPost P (OpOut w0 R0 ρ w m v m') ((Go.builtin b c.argTypes ty cs (c.args.map eb)).run P w) := fun cs => by
          obtain ⟨u, w', h3, h4⟩ := h2 ty cs w0 R0 ρ w (c.args.toList.map eb) hm (RepL.map ev eb _ fun x hx => hev x (by simp [Op.operands, Call.operands] at hx ⊢; simp [hx]))
          have e1 : c.argTypes.toList.toArray = c.argTypes := by simp
          have e2 : (c.args.toList.map eb).toArray = c.args.map eb := by apply Array.ext'; simp
          rw [e1, e2] at h3
          rw [h3]
          exact h4
        simp only [Go.execOp, resolve, hb, pure_bind, invoke]
        exact key _
      · obtain ⟨ca, aa, ta⟩ := c
        dsimp only at hb
        subst hb
        refine ⟨(fun k => by cases k), fun k m2 hsh2 w0 R0 ρ w eb hm hev => ?_, (fun _ k => by cases k), (fun k => by cases k), (fun k => by cases k)⟩
        have hlen : b = .len := by cases b <;> first | rfl | (cases k; done)
        have key : ∀ cs, OpPost P (OpOut w0 R0 ρ w m2 v m2) ((Go.builtin b ta ty cs (aa.map eb)).run P w) := fun cs => by
          obtain ⟨u, w', h3, h4⟩ := hsh hlen m2 hsh2 ty cs w0 R0 ρ w (aa.toList.map eb) hm (RepL.map ev eb _ fun x hx => hev x (by simp [Op.operands, Call.operands] at hx ⊢; simp [hx]))
          have e1 : ta.toList.toArray = ta := by simp
          have e2 : (aa.toList.map eb).toArray = aa.map eb := by apply Array.ext'; simp
          rw [e1, e2] at h3
          rw [h3]
          exact h4
        simp only [Go.execOp, resolve, pure_bind, invoke]
        exact key _
    · rename_i f hf
      split at h
      · rename_i k first cap hk
        obtain ⟨v, p', m', h1, hq', h2⟩ := hcall _ _ _ _ _ _ h
        have key : ∀ m1 m1', SemCall P m1 v m1' k (first ++ (c.args.toList.map ev ++ cap)) → SemOp P m1 v m1' ⟨dst, .call c, ty, pos, after, guard⟩ ev := ?key
        refine ⟨v, p', m', h1, fun hQ _ => (hq' hQ).1, key _ _ h2, ⟨(fun k => by cases k), fun k => ?_, fun hQ _ m2 _ => key _ _ ((hq' hQ).2 m2), (fun k => by cases k), (fun k => by cases k)⟩⟩
        · obtain ⟨ca, aa, ta⟩ := c
          dsimp only at hf
          subst hf
          cases k
        intro m1 m1' h2 w0 R0 ρ w eb hm hev
        have h3 := hev f (by simp [Op.operands, Call.operands, hf])
        rw [hk] at h3
        obtain ⟨vs, us, h4, h5, h6⟩ := h3
        have h7 := h2 w0 R0 ρ w (vs ++ (c.args.toList.map eb ++ us)) hm (h5.append ((RepL.map ev eb _ fun x hx => hev x (by simp [Op.operands, Call.operands] at hx ⊢; simp [hx])).append h6))
        simp only [Go.execOp, resolve, hf, h4, Deferred.ofValue, pure_bind, invoke]
        have e : (vs ++ (c.args.toList.map eb ++ us)).toArray = (⟨vs⟩ : Array Value) ++ c.args.map eb ++ ⟨us⟩ := by apply Array.ext'; simp
        rw [e] at h7
        exact h7
      · exact h.elim
    · exact h.elim

end
end Go.Sx
