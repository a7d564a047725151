/-
  Sx12: frames; the operations of a region in the order of the text, and in whatever order the tape picks.
-/
import Derived.Test.YtibpodgdondakaaSx11
set_option linter.unusedSimpArgs false
set_option linter.unusedVariables false
namespace Go.Sx
open Go.RowKit
section
variable {P : Program} {E : Env} {α : Type}

def FRel (R : Nat → Prop) (ρ : Rho) (n : Nat) (w : World) (fr : Fr) (tmps : Array Value) : Prop :=
  fr.size = tmps.size ∧ ∀ t, Rep R ρ n w (fr.get t) (tmps.getD t Go.undef)

theorem FRel.mono {R R' : Nat → Prop} {ρ ρ' : Rho} {n n' : Nat} {w w' : World} (e : Ext R ρ n w R' ρ' n' w') {fr : Fr} {tmps : Array Value} (h : FRel R ρ n w fr tmps) : FRel R' ρ' n' w' fr tmps := ⟨h.1, fun t => Rep.mono e _ _ (h.2 t)⟩

/-- One slot turned. -/
def FSet (fr : Fr) (d : Option Tmp) (v : SV) (fr' : Fr) : Prop :=
  fr'.size = fr.size ∧ (∀ t, d = some t → t < fr.size) ∧ ∀ t, fr'.get t = if d = some t then v else fr.get t

theorem Fr.set_holds {fr : Fr} {t : Nat} {v : SV} {k : Fr → Tree α} {L : α → Prop} (h : (fr.set t v k).holds L) : ∃ fr', FSet fr (some t) v fr' ∧ (k fr').holds L := by
  unfold Fr.set at h
  split at h
  · rename_i hlt
    obtain ⟨tb, h1, h2⟩ := holds_setT _ _ _ _ _ h
    refine ⟨⟨fr.size, tb⟩, ⟨rfl, fun u hu => ?_, fun u => ?_⟩, h2⟩
    · injection hu with hu; subst hu; exact Nat.le_of_ble_eq_true hlt
    · unfold Fr.get
      rw [h1 u]
      by_cases hu : u = t
      · subst hu; simp
      · have : ¬ (some t = some u) := fun h => hu (by injection h with h; exact h.symm)
        rw [if_neg hu, if_neg this]
  · exact h.elim

theorem putK_holds {fr : Fr} {d : Option Tmp} {v : SV} {k : Fr → Tree α} {L : α → Prop} (h : (putK fr d v k).holds L) : ∃ fr', FSet fr d v fr' ∧ (k fr').holds L := by
  cases d with
  | none => exact ⟨fr, ⟨rfl, fun t ht => (by cases ht), fun t => by simp⟩, h⟩
  | some t => exact Fr.set_holds h

theorem FRel.put {R : Nat → Prop} {ρ : Rho} {n : Nat} {w : World} {fr fr' : Fr} {a : Act} {d : Option Tmp} {v : SV} {u : Value} (h : FRel R ρ n w fr a.tmps) (hf : FSet fr d v fr') (hv : Rep R ρ n w v u) : FRel R ρ n w fr' (a.put d u).tmps := by
  obtain ⟨f1, f2, f3⟩ := hf
  cases d with
  | none => exact ⟨f1.trans h.1, fun t => by rw [f3 t]; simpa [Act.put] using h.2 t⟩
  | some d =>
    refine ⟨by simp [Act.put, f1, h.1], fun t => ?_⟩
    rw [f3 t]
    have hd : d < a.tmps.size := by rw [← h.1]; exact f2 d rfl
    by_cases ht : d = t
    · subst ht
      simp [Act.put, Array.getElem?_setIfInBounds, hd]; exact hv
    · have : ¬ (some d = some t) := fun e => ht (by injection e)
      rw [if_neg this]
      have h2 := h.2 t
      simpa [Act.put, Array.getElem?_setIfInBounds_ne ht] using h2

theorem FRel.eval {R : Nat → Prop} {ρ : Rho} {n : Nat} {w : World} {fr : Fr} {a : Act} (h : FRel R ρ n w fr a.tmps) (x : Operand) : Rep R ρ n w (evalIn fr x) (a.eval x) := by
  cases x with
  | tmp t => exact h.2 t
  | const v => exact ofVal_rep v _ _ _ _
  | global g => rfl
  | func f => exact ⟨[], [], rfl, rfl, rfl⟩

/-- Whether an operation is wanted, by its guard's slot. -/
def gval (all : List Oper) (get : Nat → SV) (o : Oper) : Option Bool :=
  match o.guard with
  | none => some true
  | some (j, want) => match (all[j]?).bind (·.dst) with
    | some d => match get d with
      | .bool b => some (b == want)
      | .undef => some false
      | _ => none
    | none => none

theorem yielded_of {R : Nat → Prop} {ρ : Rho} {n : Nat} {w : World} {all : List Oper} {get : Nat → SV} {tmps : Array Value} {o : Oper} {g : Bool} (h : ∀ j want d, o.guard = some (j, want) → (all[j]?).bind (·.dst) = some d → Rep R ρ n w (get d) (tmps.getD d Go.undef)) (hg : gval all get o = some g) :
    Region.wanted o (yielded all.toArray tmps) = g := by
  unfold gval at hg
  unfold Region.wanted
  cases ho : o.guard with
  | none => rw [ho] at hg; injection hg
  | some jw =>
    obtain ⟨j, want⟩ := jw
    rw [ho] at hg
    dsimp only at hg ⊢
    cases hd : (all[j]?).bind (·.dst) with
    | none => rw [hd] at hg; cases hg
    | some d =>
      rw [hd] at hg
      dsimp only at hg
      have hr := h j want d ho hd
      have e : yielded all.toArray tmps j = match tmps[d]? with | some (.bool b) => some b | _ => none := by
        unfold yielded
        have : (all.toArray[j]?).bind (·.dst) = some d := by simpa using hd
        rw [this]; rfl
      rw [e]
      split at hg
      · rename_i b hb
        injection hg with hg
        rw [hb] at hr
        have hr' : tmps.getD d Go.undef = .bool b := hr
        have : tmps[d]? = some (.bool b) := by
          rw [Array.getD_eq_getD_getElem?] at hr'
          cases ht : tmps[d]? with
          | none => rw [ht] at hr'; simp [Go.undef] at hr'
          | some x => rw [ht] at hr'; simpa using hr'
        rw [this, ← hg]
        cases b <;> cases want <;> rfl
      · rename_i hb
        injection hg with hg
        rw [hb] at hr
        have hr' : tmps.getD d Go.undef = Go.undef := hr
        have : (match tmps[d]? with | some (.bool b) => some b | _ => none) = (none : Option Bool) := by
          rw [Array.getD_eq_getD_getElem?] at hr'
          cases ht : tmps[d]? with
          | none => rfl
          | some x => rw [ht] at hr'; simp at hr'; subst hr'; rfl
        rw [this, ← hg]
        rfl
      · cases hg

theorem upon_of_post {o : Oper} {a : Act} {K : Act → World → Prop} {Q : Exit → Act → World → Prop} {Φ : Value → World → Prop} (h : ∀ u w', Φ u w' → K (a.put o.dst u) w') : ∀ {r : Result Next}, OpPost P Φ r → o.upon P a K Q r
  | .ok (.value v) w, k => h v w k
  | .ok .skip w, k => h _ w k
  | .ok (.enter f args) w, k => Calls.mono k fun e w' ⟨v, he, hv⟩ => by subst he; exact h v w' hv

/-- One operation of the text. -/
def StepOK (P : Program) (all : List Oper) (o : Oper) (fr : Fr) (m : Mem) (v : SV) (m' : Mem) : Prop :=
  (gval all fr.get o = some true ∧ SemOp P m v m' o (evalIn fr)) ∨ (gval all fr.get o = some false ∧ v = .undef ∧ m' = m)

inductive Chain (P : Program) (all : List Oper) : List Oper → Fr → Mem → Fr → Mem → Prop where
  | nil (fr : Fr) (m : Mem) : Chain P all [] fr m fr m
  | cons {o : Oper} {rest : List Oper} {fr fr1 fr' : Fr} {m m1 m' : Mem} {v : SV} (h : StepOK P all o fr m v m1) (hf : FSet fr o.dst v fr1) (k : Chain P all rest fr1 m1 fr' m') : Chain P all (o :: rest) fr m fr' m'

/-- What more is known of it. -/
structure MoreOK (P : Program) (E : Env) (Q : Bool) (all : List Oper) (o : Oper) (fr : Fr) (m : Mem) (v : SV) (m' : Mem) : Prop where
  quiet : Q = true → quiet E o.op = true → m' = m
  more : gval all fr.get o = some true → Extra P Q m v m' o (evalIn fr)
  store : isStore o.op = true → Shape m m' ∧ Shape m' m
  alloc : isAlloc o.op = true → m.get m.next = none → Up m m'

theorem oneOp_holds (hE : EOK P E) {Q : Bool} {call : CallK α} (hcall : CallOK P Q call) {let_ : Op → Bool} {all : List Oper} {o : Oper} {ih : OpsK α} {p : Plan} {fr : Fr} {m : Mem} {L : α → Prop} (h : (oneOp E let_ call all o ih p fr m).holds L) :
    ∃ p' v fr1 m1, (ih p' fr1 m1).holds L ∧ StepOK P all o fr m v m1 ∧ FSet fr o.dst v fr1 ∧ MoreOK P E Q all o fr m v m1 := by
  have run : ∀ (p : Plan) (fr2 : Fr), (∀ t, fr2.get t = fr.get t) → fr2.size = fr.size → gval all fr.get o = some true → ((match let_ o.op with
      | true => execOp E call (evalIn fr2) o.op p m fun v p m => putK fr2 o.dst v fun fr => ih p fr m
      | false => .fail 133 : Tree α)).holds L → ∃ p' v fr1 m1, (ih p' fr1 m1).holds L ∧ StepOK P all o fr m v m1 ∧ FSet fr o.dst v fr1 ∧ MoreOK P E Q all o fr m v m1 := by
    intro p fr2 hg hs hgv h
    split at h
    · rename_i hlo
      obtain ⟨v, p', m1, h1, h2, h3⟩ := execOp_sound hE hcall h
      obtain ⟨fr1, h4, h5⟩ := putK_holds h1
      have he : evalIn fr2 = evalIn fr := funext fun x => by cases x <;> simp [evalIn, hg]
      rw [he] at h3
      exact ⟨p', v, fr1, m1, h5, .inl ⟨hgv, h3.1⟩, ⟨h4.1.trans hs, fun t ht => by rw [← hs]; exact h4.2.1 t ht, fun t => by rw [h4.2.2 t, hg t]⟩, ⟨h2, fun _ => h3.2, h3.2.store, h3.2.alloc⟩⟩
    · exact h.elim
  have skip : ∀ (p : Plan) (fr2 : Fr), (∀ t, fr2.get t = fr.get t) → fr2.size = fr.size → gval all fr.get o = some false → (putK fr2 o.dst .undef fun fr => ih p fr m).holds L → ∃ p' v fr1 m1, (ih p' fr1 m1).holds L ∧ StepOK P all o fr m v m1 ∧ FSet fr o.dst v fr1 ∧ MoreOK P E Q all o fr m v m1 := by
    intro p fr2 hg hs hgv h
    obtain ⟨fr1, h4, h5⟩ := putK_holds h
    exact ⟨p, .undef, fr1, m, h5, .inr ⟨hgv, rfl, rfl⟩, ⟨h4.1.trans hs, fun t ht => by rw [← hs]; exact h4.2.1 t ht, fun t => by rw [h4.2.2 t, hg t]⟩, ⟨fun _ _ => rfl, fun h => (by rw [hgv] at h; cases h), fun _ => ⟨Shape.refl m, Shape.refl m⟩, fun _ _ => Up.refl m⟩⟩
  unfold oneOp at h
  cases hg : o.guard with
  | none =>
    rw [hg] at h
    exact run p fr (fun _ => rfl) rfl (by simp [gval, hg]) h
  | some jw =>
    rw [hg] at h
    dsimp only at h
    rw [nth_eq] at h
    split at h
    · rename_i oj hoj
      split at h
      · rename_i d hd
        have hb : (all[jw.1]?).bind (·.dst) = some d := by rw [hoj]; exact hd
        split at h
        · rename_i b hfr
          obtain ⟨p', h⟩ := dec_holds h
          obtain ⟨fr2, h1, h2⟩ := Fr.set_holds h
          have hget : ∀ t, fr2.get t = fr.get t := fun t => by
            rw [h1.2.2 t]
            by_cases ht : some d = some t
            · injection ht with ht; subst ht; rw [if_pos rfl, hfr]
            · rw [if_neg ht]
          split at h2
          · rename_i hbw
            exact run p' fr2 hget h1.1 (by simp only [gval, hg, hb, hfr]; rw [hbw]) h2
          · rename_i hbw
            exact skip p' fr2 hget h1.1 (by simp only [gval, hg, hb, hfr]; rw [hbw]) h2
        · rename_i hfr
          exact skip p fr (fun _ => rfl) rfl (by simp only [gval, hg, hb, hfr]) h
        · exact h.elim
      · exact h.elim
    · exact h.elim

theorem execOps_chain (hE : EOK P E) {Q : Bool} {call : CallK α} (hcall : CallOK P Q call) {let_ : Op → Bool} {all : List Oper} {k : OpsK α} {L : α → Prop} : ∀ (ops : List Oper) (p : Plan) (fr : Fr) (m : Mem), (execOps E let_ call all ops k p fr m).holds L →
    ∃ p' fr' m', (k p' fr' m').holds L ∧ Chain P all ops fr m fr' m'
  | [], p, fr, m, h => ⟨p, fr, m, h, .nil fr m⟩
  | o :: rest, p, fr, m, h => by
    change (oneOp E let_ call all o (execOps E let_ call all rest k) p fr m).holds L at h
    obtain ⟨p1, v, fr1, m1, h1, h2, h3, h4⟩ := oneOp_holds hE hcall h
    obtain ⟨p', fr', m', h5, h6⟩ := execOps_chain hE hcall rest p1 fr1 m1 h1
    exact ⟨p', fr', m', h5, .cons h2 h3 h6⟩

/-- State: the memory and the frame. -/
def SRel (w0 : World) (R0 : Nat → Prop) (ρ : Rho) (w : World) (fr : Fr) (m : Mem) (a : Act) : Prop :=
  MRel w0 R0 ρ w m ∧ FRel (RO w0 R0 ρ w m) ρ m.next w fr a.tmps ∧ a.defers = []

theorem put_defers (a : Act) (d : Option Tmp) (v : Value) : (a.put d v).defers = a.defers := by cases d <;> rfl

theorem step_state {w0 : World} {R0 : Nat → Prop} {ρ : Rho} {w : World} {fr fr1 : Fr} {m m1 : Mem} {a : Act} {all : List Oper} {o : Oper} {v : SV} (hs : SRel w0 R0 ρ w fr m a) (h : StepOK P all o fr m v m1) (hf : FSet fr o.dst v fr1) {K : Act → World → Prop} {Q : Exit → Act → World → Prop}
    (hK : ∀ ρ' w' a', SRel w0 R0 ρ' w' fr1 m1 a' → MExt w0 R0 ρ w m ρ' w' m1 → K a' w') : if Region.wanted o (yielded all.toArray a.tmps) then o.wp P a w K Q ∨ (o.asks P a w ∧ LetsOut Q) else K (a.put o.dst Go.undef) w := by
  obtain ⟨hm, hfr, hd⟩ := hs
  rcases h with ⟨hg, hsem⟩ | ⟨hg, rfl, rfl⟩
  · rw [yielded_of (fun j want d _ _ => hfr.2 d) hg]
    refine .inl (upon_of_post (fun u w' hu => ?_) (hsem w0 R0 ρ w a.eval hm (fun x _ => hfr.eval x)))
    obtain ⟨ρ', g1, g2, g3⟩ := hu
    exact hK ρ' w' _ ⟨g1, (hfr.mono g2).put hf g3, by rw [put_defers]; exact hd⟩ g2
  · rw [yielded_of (fun j want d _ _ => hfr.2 d) hg]
    exact hK ρ w _ ⟨hm, hfr.put hf rfl, by rw [put_defers]; exact hd⟩ (Ext.refl _ _ _ _)

/-- In the order of the text. -/
theorem chain_wpOps {w0 : World} {R0 : Nat → Prop} {all : List Oper} {Q : Exit → Act → World → Prop} : ∀ {ops : List Oper} {fr fr' : Fr} {m m' : Mem}, Chain P all ops fr m fr' m' → ∀ (i : Nat), all.drop i = ops → ∀ (ρ : Rho) (w : World) (a : Act), SRel w0 R0 ρ w fr m a →
    (∀ ρ' w' a', SRel w0 R0 ρ' w' fr' m' a' → MExt w0 R0 ρ w m ρ' w' m' → Q .normal a' w') → wpOps P all.toArray Q (List.range' i ops.length) a w := by
  intro ops fr fr' m m' h
  induction h with
  | nil fr m => intro i hi ρ w a hs hQ; exact hQ ρ w a hs (Ext.refl _ _ _ _)
  | @cons o rest fr fr1 fr' m m1 m' v hst hf k ih =>
    intro i hi ρ w a hs hQ
    have hoi : all[i]? = some o := by
      have : (all.drop i)[0]? = some o := by rw [hi]; rfl
      simpa using this
    have hrest : all.drop (i + 1) = rest := by
      have : (all.drop i).drop 1 = rest := by rw [hi]; rfl
      rw [List.drop_drop] at this
      exact this
    rw [List.length_cons, List.range'_succ]
    unfold wpOps
    have hoi' : all.toArray[i]? = some o := by simpa using hoi
    rw [hoi']
    exact step_state hs hst hf fun ρ' w' a' hs' he => ih (i + 1) hrest ρ' w' a' hs' fun ρ2 w2 a2 hs2 he2 => hQ ρ2 w2 a2 hs2 (he.trans he2)
end
end Go.Sx
