/-
  Sx14: calls: the frame of a call, its results, what is handed back; what the trees of summaries say.
-/
import Derived.Test.YtibpodgdondakaaSx13
set_option linter.unusedSimpArgs false
set_option linter.unusedVariables false
namespace Go.Sx
open Go.RowKit
section
variable {P : Program} {E : Env} {α : Type}

/-! ### Values that name no box -/

theorem data_agg (cs : List SV) : (SV.agg cs).data = dataL cs := by
  induction cs with
  | nil => rfl
  | cons x xs ih =>
    show (match x.data with | true => (SV.agg xs).data | false => false) = (match x.data with | true => dataL xs | false => false)
    rw [ih]
theorem data_tuple (cs : List SV) : (SV.tuple cs).data = dataL cs := data_agg cs
theorem data_fn (f : Nat) (a c : List SV) : (SV.fn f a c).data = match dataL a with | true => dataL c | false => false := by
  rw [← data_agg a, ← data_agg c]; rfl
theorem dataL_cons (x : SV) (xs : List SV) : dataL (x :: xs) = match x.data with | true => dataL xs | false => false := rfl

mutual
theorem Rep.data {R R' : Nat → Prop} {ρ ρ' : Rho} {n n' : Nat} {w : World} (hR : ∀ b, R b → R' b) : ∀ (x : SV) (v : Value), x.data = true → Rep R ρ n w x v → Rep R' ρ' n' w x v
  | .undef, _, _, h => h
  | .top, _, _, _ => trivial
  | .int _ _, _, _, h => h
  | .bool _, _, _, h => h
  | .str _, _, _, h => h
  | .nilS, _, _, h => h
  | .list t l, v, _, h => RepD.mono (fun b hb => ⟨hR b hb, rfl⟩) (.list t) l [v] h
  | .row _, _, hd, _ => by cases hd
  | .arr _ _ _, _, hd, _ => by cases hd
  | .ptr _ _, _, hd, _ => by cases hd
  | .nilP, _, _, h => h
  | .eptr t l i off, v, _, h => by
    obtain ⟨b, o, h1, h2, h3⟩ := h
    exact ⟨b, o, h1, h2, h3.mono fun b hb => ⟨hR b hb, rfl⟩⟩
  | .rptr _ _ _ _, _, hd, _ => by cases hd
  | .agg cs, v, hd, h => by
    obtain ⟨vs, h1, h2⟩ := h
    exact ⟨vs, h1, RepL.data hR cs vs (by rw [← data_agg]; exact hd) h2⟩
  | .tuple cs, v, hd, h => by
    obtain ⟨vs, h1, h2⟩ := h
    exact ⟨vs, h1, RepL.data hR cs vs (by rw [← data_tuple]; exact hd) h2⟩
  | .fn f first cap, v, hd, h => by
    obtain ⟨vs, us, h1, h2, h3⟩ := h
    rw [data_fn] at hd
    cases h4 : dataL first with
    | false => rw [h4] at hd; cases hd
    | true =>
      rw [h4] at hd
      exact ⟨vs, us, h1, RepL.data hR first vs h4 h2, RepL.data hR cap us hd h3⟩
  | .raw _, _, _, h => h
theorem RepL.data {R R' : Nat → Prop} {ρ ρ' : Rho} {n n' : Nat} {w : World} (hR : ∀ b, R b → R' b) : ∀ (xs : List SV) (vs : List Value), dataL xs = true → RepL R ρ n w xs vs → RepL R' ρ' n' w xs vs
  | [], _, _, h => h
  | x :: xs, vs, hd, h => by
    obtain ⟨u, us, h1, h2, h3⟩ := h
    rw [dataL_cons] at hd
    cases h4 : x.data with
    | false => rw [h4] at hd; cases hd
    | true =>
      rw [h4] at hd
      exact ⟨u, us, h1, Rep.data hR x u h4 h2, RepL.data hR xs us hd h3⟩
end

/-! ### The frame of a call -/

theorem make_go_holds : ∀ (args : List SV) (i : Nat) (fr : Fr) (k : Fr → Tree α) (L : α → Prop), (List.rec (motive := fun _ => Nat → Fr → (Fr → Tree α) → Tree α) (fun _ fr k => k fr) (fun x _ ih i fr k => frc x fun x => fr.set i x fun fr => ih (i + 1) fr k) args i fr k).holds L →
    ∃ fr', (k fr').holds L ∧ fr'.size = fr.size ∧ (args = [] ∨ i + args.length ≤ fr.size) ∧ ∀ t, fr'.get t = if i ≤ t ∧ t < i + args.length then args.getD (t - i) .undef else fr.get t
  | [], i, fr, k, L, h => ⟨fr, h, rfl, .inl rfl, fun t => by rw [if_neg (by simp)]⟩
  | x :: args, i, fr, k, L, h => by
    change (frc x fun x => fr.set i x fun fr => List.rec (motive := fun _ => Nat → Fr → (Fr → Tree α) → Tree α) (fun _ fr k => k fr) (fun x _ ih i fr k => frc x fun x => fr.set i x fun fr => ih (i + 1) fr k) args (i + 1) fr k).holds L at h
    rw [frc_eq] at h
    obtain ⟨fr1, h1, h2⟩ := Fr.set_holds h
    obtain ⟨fr', h3, h4, h5, h6⟩ := make_go_holds args (i + 1) fr1 k L h2
    have hlt := h1.2.1 i rfl
    refine ⟨fr', h3, h4.trans h1.1, .inr ?_, fun t => ?_⟩
    · rcases h5 with rfl | h5
      · exact hlt
      · rw [h1.1] at h5; simp only [List.length_cons]; omega
    · rw [h6 t]
      simp only [List.length_cons]
      by_cases h7 : i + 1 ≤ t ∧ t < i + 1 + args.length
      · rw [if_pos h7, if_pos ⟨by omega, by omega⟩, show t - i = (t - (i + 1)) + 1 by omega, List.getD_cons_succ]
      · rw [if_neg h7, h1.2.2 t]
        by_cases h8 : i = t
        · subst h8
          rw [if_pos rfl, if_pos ⟨by omega, by omega⟩]; simp
        · have : ¬ (some i = some t) := fun e => h8 (by injection e)
          rw [if_neg this, if_neg (by omega)]

theorem make_holds {size : Nat} {args : List SV} {k : Fr → Tree α} {L : α → Prop} (h : (Fr.make size args k).holds L) : ∃ fr, (k fr).holds L ∧ fr.size = size ∧ (args = [] ∨ args.length ≤ size) ∧ ∀ t, fr.get t = args.getD t .undef := by
  obtain ⟨fr, h1, h2, h3, h4⟩ := make_go_holds args 0 ⟨size, .e⟩ k L h
  refine ⟨fr, h1, h2, h3.imp id (fun h => by simpa using h), fun t => ?_⟩
  rw [h4 t]
  by_cases ht : t < args.length
  · rw [if_pos ⟨Nat.zero_le _, by omega⟩]; simp
  · rw [if_neg (by omega)]
    have : args.getD t .undef = .undef := by simp [List.getD, List.getElem?_eq_none (show args.length ≤ t by omega)]
    rw [this]; rfl

theorem frame_rel {R : Nat → Prop} {ρ : Rho} {n : Nat} {w : World} {size : Nat} {args : List SV} {vs : List Value} {fr : Fr} (h1 : fr.size = size) (h2 : args = [] ∨ args.length ≤ size) (h3 : ∀ t, fr.get t = args.getD t .undef) (h : RepL R ρ n w args vs) :
    FRel R ρ n w fr (vs.toArray ++ Array.replicate (size - vs.toArray.size) Go.undef) := by
  have hl := h.length
  have hle : args.length ≤ size := by
    rcases h2 with rfl | h2
    · simp
    · exact h2
  refine ⟨by rw [h1]; simp; omega, fun t => ?_⟩
  rw [h3 t]
  by_cases ht : t < args.length
  · obtain ⟨c, hc⟩ : ∃ c, args[t]? = some c := ⟨_, List.getElem?_eq_getElem ht⟩
    obtain ⟨v, hv, hr⟩ := h.get hc
    have e1 : args.getD t .undef = c := by simp [List.getD, hc]
    have e2 : (vs.toArray ++ Array.replicate (size - vs.toArray.size) Go.undef).getD t Go.undef = v := by
      rw [Array.getD_eq_getD_getElem?, Array.getElem?_append_left (by simp; omega)]
      simp [hv]
    rw [e1, e2]; exact hr
  · have e1 : args.getD t .undef = .undef := by simp [List.getD, List.getElem?_eq_none (show args.length ≤ t by omega)]
    have e2 : (vs.toArray ++ Array.replicate (size - vs.toArray.size) Go.undef).getD t Go.undef = Go.undef := by
      rw [Array.getD_eq_getD_getElem?, Array.getElem?_append_right (by simp; omega), Array.getElem?_replicate]
      split <;> rfl
    rw [e1, e2]; rfl

/-! ### Results -/

/-- One result of a call. -/
def resVal (tmps : Array Value) : ResultVar → Sem Value
  | .tmp t => pure (tmps.getD t Go.undef)
  | .cell a t => do loadVar t (← asAddr (tmps.getD a Go.undef))

theorem results_eq (fn : Func) (tmps : Array Value) : Go.results fn tmps = (do
    let vs ← fn.results.mapM (resVal tmps)
    pure (if h : vs.size = 1 then vs[0] else .tuple vs)) := by
  unfold Go.results
  congr 1

theorem resOf_holds (hE : EOK P E) {m : Mem} {fr : Fr} {r : ResultVar} {k : SV → Tree α} {L : α → Prop} (h : (resOf E m fr r k).holds L) : ∃ v, (k v).holds L ∧ ∀ w0 R0 ρ w a, SRel w0 R0 ρ w fr m a →
    ∃ u, (resVal a.tmps r).run P w = .ok u w ∧ Rep (RO w0 R0 ρ w m) ρ m.next w v u := by
  cases r with
  | tmp t =>
    change (frc (fr.get t) k).holds L at h
    rw [frc_eq] at h
    exact ⟨_, h, fun w0 R0 ρ w a hs => ⟨_, rfl, hs.2.1.2 t⟩⟩
  | cell a' t =>
    change (opLoad E t (fr.get a') .auto m fun v _ _ => k v).holds L at h
    obtain ⟨v, h1, h2⟩ := opLoad_sound hE h
    refine ⟨v, h1, fun w0 R0 ρ w a hs => ?_⟩
    obtain ⟨u, h3, h4⟩ := h2 m (Up.refl m) w0 R0 ρ w _ hs.1 (hs.2.1.2 a')
    refine ⟨u, ?_, h4⟩
    show ((do loadVar t (← asAddr (a.tmps.getD a' Go.undef)) : Sem Value)).run P w = _
    generalize a.tmps.getD a' Go.undef = av at h3 ⊢
    cases av <;> try (simp [Instr.loadAt, Instr.sureAddr] at h3; done)
    rename_i o
    cases o with
    | none => simp [Instr.loadAt, Instr.sureAddr] at h3
    | some ad => simpa [Instr.loadAt, Instr.sureAddr, asAddr] using h3

theorem resList_holds (hE : EOK P E) {m : Mem} {fr : Fr} : ∀ (rs : List ResultVar) (k : List SV → Tree α) (L : α → Prop), (resList E m fr rs k).holds L → ∃ vs, (k vs).holds L ∧ vs.length = rs.length ∧ ∀ w0 R0 ρ w a, SRel w0 R0 ρ w fr m a →
    ∃ us, (rs.mapM (resVal a.tmps)).run P w = .ok us w ∧ RepL (RO w0 R0 ρ w m) ρ m.next w vs us
  | [], k, L, h => ⟨[], h, rfl, fun w0 R0 ρ w a hs => ⟨[], rfl, rfl⟩⟩
  | r :: rs, k, L, h => by
    change (resOf E m fr r fun v => resList E m fr rs fun vs => k (v :: vs)).holds L at h
    obtain ⟨v, h1, h2⟩ := resOf_holds hE h
    obtain ⟨vs, h3, h4, h5⟩ := resList_holds hE rs _ L h1
    refine ⟨v :: vs, h3, by simp [h4], fun w0 R0 ρ w a hs => ?_⟩
    obtain ⟨u, h6, h7⟩ := h2 w0 R0 ρ w a hs
    obtain ⟨us, h8, h9⟩ := h5 w0 R0 ρ w a hs
    refine ⟨u :: us, ?_, u, us, rfl, h7, h9⟩
    rw [List.mapM_cons]
    simp only [Sem.run_bind, h6, h8, Result.andThen_ok, Sem.run_pure]

theorem results_holds (hE : EOK P E) {fn : Func} {m : Mem} {fr : Fr} {k : SV → Tree α} {L : α → Prop} (h : (results E fn m fr k).holds L) : ∃ v, (k v).holds L ∧ ∀ w0 R0 ρ w a, SRel w0 R0 ρ w fr m a → ∃ u, (Go.results fn a.tmps).run P w = .ok u w ∧ Rep (RO w0 R0 ρ w m) ρ m.next w v u := by
  obtain ⟨vs, h1, h2, h3⟩ := resList_holds hE fn.results.toList _ L h
  have run : ∀ (a : Act) (w : World) (us : List Value), (fn.results.toList.mapM (resVal a.tmps)).run P w = .ok us w → (Go.results fn a.tmps).run P w = .ok (if h : us.toArray.size = 1 then us.toArray[0] else .tuple us.toArray) w := by
    intro a w us hu
    rw [results_eq, Array.mapM_eq_mapM_toList]
    simp only [Sem.run_bind, Sem.run_map, hu]
    rfl
  split at h1
  · rename_i v
    refine ⟨v, h1, fun w0 R0 ρ w a hs => ?_⟩
    obtain ⟨us, h4, u, us', rfl, h5, h6⟩ := h3 w0 R0 ρ w a hs
    rw [show us' = [] from h6] at h4
    exact ⟨u, by rw [run a w _ h4]; rfl, h5⟩
  · rename_i hne
    refine ⟨_, h1, fun w0 R0 ρ w a hs => ?_⟩
    obtain ⟨us, h4, h5⟩ := h3 w0 R0 ρ w a hs
    have hl := h5.length
    refine ⟨.tuple us.toArray, ?_, us, rfl, h5⟩
    rw [run a w _ h4, dif_neg]
    intro h6
    have : vs.length = 1 := by simp at h6; omega
    obtain ⟨v, hv⟩ := List.length_eq_one_iff.1 this
    exact hne v hv

/-! ### Trees of summaries -/

def Tree.says {β : Type} (Φ : β → Prop) : Tree β → Prop
  | .leaf a => Φ a
  | .node b t f => (b = true → t.says Φ) ∧ (b = false → f.says Φ)
  | .req b t => b = true → t.says Φ
  | .fail _ => True

theorem bindT_holds {Φ : SV → Prop} {m : Mem} {κ : Kont α} {L : α → Prop} : ∀ (t : Tree SV) (p : Plan), (bindT m κ t p).holds L → t.says Φ → ∃ v p', (κ v p' m).holds L ∧ Φ v
  | .leaf v, p, h, hs => ⟨v, p, h, hs⟩
  | .node b t f, p, h, hs => by
    obtain ⟨p', h⟩ := dec_holds (k := fun b p => match b with
      | true => bindT m κ t p
      | false => bindT m κ f p) h
    cases b with
    | true => exact bindT_holds t p' h (hs.1 rfl)
    | false => exact bindT_holds f p' h (hs.2 rfl)
  | .req b t, p, h, hs => bindT_holds t p h.2 (hs h.1)
  | .fail _, _, h, _ => h.elim

/-- A call that leaves the caller's memory alone, by its values. -/
def SCall (P : Program) (f : FuncId) (args : List SV) (v : SV) : Prop := ∀ m, SemCall P m v m f args

def SumOK (P : Program) (E : Env) : Prop := ∀ f s args t, E.sum f = some s → s args = some t → t.says (SCall P f args)

/-! ### What a call in a memory of its own hands back -/

/-- What may be read: what the caller could read ahead of the call, and what the callee can. -/
abbrev RR (w0 : World) (R0 : Nat → Prop) (ρ0 : Rho) (w : World) (m0 : Mem) (ρc : Rho) (mc0 : Mem) (w' : World) (b : Nat) : Prop :=
  RO w0 R0 ρ0 w m0 b ∨ RO w (RO w0 R0 ρ0 w m0) ρc w' mc0 b

/-- The caller's side and the callee's, while rows change hands. -/
structure Hand (w0 : World) (R0 : Nat → Prop) (ρ0 : Rho) (w : World) (m0 : Mem) (ρc : Rho) (mc0 : Mem) (w' : World) (ρ : Rho) (m mc : Mem) : Prop where
  le : m0.next ≤ m.next
  same : ∀ id, id < m0.next → ρ id = ρ0 id
  lt : ∀ id B, m.get id = some B → id < m.next
  lo : ∀ id B, m.get id = some B → solid (ρ id) B → w0.heap.size ≤ (ρ id).1
  hi : ∀ id B, m.get id = some B → solid (ρ id) B → (ρ id).1 < w'.heap.size
  inj : ∀ id id' B B', m.get id = some B → m.get id' = some B' → solid (ρ id) B → solid (ρ id') B' → (ρ id).1 = (ρ id').1 → id = id'
  box : ∀ id B, m.get id = some B → BoxRel (RR w0 R0 ρ0 w m0 ρc mc0 w') ρ m.next w' (ρ id) B
  sub : ∀ k B, mc.get k = some B → mc0.get k = some B
  apart : ∀ k B, mc.get k = some B → solid (ρc k) B → ∀ id C, m.get id = some C → solid (ρ id) C → (ρ id).1 ≠ (ρc k).1
  ro : ∀ b, RR w0 R0 ρ0 w m0 ρc mc0 w' b → RO w0 R0 ρ w' m b

theorem Hand.start {w0 : World} {R0 : Nat → Prop} {ρ0 : Rho} {w : World} {m0 : Mem} {ρc : Rho} {mc0 : Mem} {w' : World} (hm : MRel w0 R0 ρ0 w m0) (hc : MRel w (RO w0 R0 ρ0 w m0) ρc w' mc0) : Hand w0 R0 ρ0 w m0 ρc mc0 w' ρ0 m0 mc0 := by
  have hsz := hc.below.size
  have hkeep : ∀ b, RO w0 R0 ρ0 w m0 b → RO w0 R0 ρ0 w' m0 b := fun b hb => by
    rcases hb with hb | ⟨h1, h2, h3⟩
    · exact .inl hb
    · exact .inr ⟨h1, by omega, h3⟩
  have e : Ext (RO w0 R0 ρ0 w m0) ρ0 m0.next w (RR w0 R0 ρ0 w m0 ρc mc0 w') ρ0 m0.next w' := ⟨Nat.le_refl _, fun _ _ => rfl, fun b hb => ⟨.inl hb, hc.below.block b (hm.ro_lt hb)⟩⟩
  refine ⟨Nat.le_refl _, fun _ _ => rfl, hm.lt, hm.lo, fun id B h1 h2 => ?_, hm.inj, fun id B h1 => BoxRel.mono e B (fun hs => hc.below.block _ (hm.hi id B h1 hs)) (hm.box id B h1), fun _ _ h => h, fun k B h1 h2 id C h3 h4 => ?_, fun b hb => ?_⟩
  · have := hm.hi id B h1 h2; omega
  · have := hm.hi id C h3 h4; have := hc.lo k B h1 h2; omega
  · rcases hb with hb | ⟨hb, _⟩ | ⟨h1, h2, _⟩
    · exact hkeep b hb
    · exact hkeep b hb
    · have := hm.size_le
      exact .inr ⟨by omega, h2, fun id C h3 h4 => by have := hm.hi id C h3 h4; omega⟩

theorem Hand.finish {w0 : World} {R0 : Nat → Prop} {ρ0 : Rho} {w : World} {m0 : Mem} {ρc : Rho} {mc0 : Mem} {w' : World} {ρ : Rho} {m mc : Mem} (hm : MRel w0 R0 ρ0 w m0) (hc : MRel w (RO w0 R0 ρ0 w m0) ρc w' mc0) (h : Hand w0 R0 ρ0 w m0 ρc mc0 w' ρ m mc) :
    MRel w0 R0 ρ w' m ∧ MExt w0 R0 ρ0 w m0 ρ w' m := by
  have e : Ext (RR w0 R0 ρ0 w m0 ρc mc0 w') ρ m.next w' (RO w0 R0 ρ w' m) ρ m.next w' := ⟨Nat.le_refl _, fun _ _ => rfl, fun b hb => ⟨h.ro b hb, rfl⟩⟩
  refine ⟨⟨hm.below.trans (hc.below.mono hm.size_le), h.lt, h.lo, h.hi, h.inj, fun id B h1 => BoxRel.mono e B (fun _ => rfl) (h.box id B h1)⟩, h.le, h.same, fun b hb => ⟨h.ro b (.inl hb), hc.below.block b (hm.ro_lt hb)⟩⟩

theorem adopt1_holds {v : SV} {mc m : Mem} {k : SV → Mem → Mem → Tree α} {L : α → Prop} (h : (adopt1 v mc m k).holds L) : ∃ v' mc' m', (k v' mc' m').holds L ∧ ∀ w0 R0 ρ0 w m0 ρc mc0 w' ρ (u : Value), MRel w0 R0 ρ0 w m0 → MRel w (RO w0 R0 ρ0 w m0) ρc w' mc0 → Hand w0 R0 ρ0 w m0 ρc mc0 w' ρ m mc → Rep (RO w (RO w0 R0 ρ0 w m0) ρc w' mc0) ρc mc0.next w' v u →
    ∃ ρ', Hand w0 R0 ρ0 w m0 ρc mc0 w' ρ' m' mc' ∧ Ext (RR w0 R0 ρ0 w m0 ρc mc0 w') ρ m.next w' (RR w0 R0 ρ0 w m0 ρc mc0 w') ρ' m'.next w' ∧ Rep (RR w0 R0 ρ0 w m0 ρc mc0 w') ρ' m'.next w' v' u := by
  have plain : ∀ v : SV, v.data = true → (k v mc m).holds L → ∃ v' mc' m', (k v' mc' m').holds L ∧ ∀ w0 R0 ρ0 w m0 ρc mc0 w' ρ (u : Value), MRel w0 R0 ρ0 w m0 → MRel w (RO w0 R0 ρ0 w m0) ρc w' mc0 → Hand w0 R0 ρ0 w m0 ρc mc0 w' ρ m mc → Rep (RO w (RO w0 R0 ρ0 w m0) ρc w' mc0) ρc mc0.next w' v u →
      ∃ ρ', Hand w0 R0 ρ0 w m0 ρc mc0 w' ρ' m' mc' ∧ Ext (RR w0 R0 ρ0 w m0 ρc mc0 w') ρ m.next w' (RR w0 R0 ρ0 w m0 ρc mc0 w') ρ' m'.next w' ∧ Rep (RR w0 R0 ρ0 w m0 ρc mc0 w') ρ' m'.next w' v' u :=
    fun v hd h => ⟨v, mc, m, h, fun w0 R0 ρ0 w m0 ρc mc0 w' ρ u hm hc hh hr => ⟨ρ, hh, Ext.refl _ _ _ _, Rep.data (fun b hb => .inr hb) v u hd hr⟩⟩
  cases v with
  | row id =>
    dsimp only [adopt1] at h
    split at h
    · rename_i t l hg
      obtain ⟨mc', h1, h2⟩ := Mem.set_holds h
      obtain ⟨m', h3, h4⟩ := Mem.push_holds h2
      refine ⟨_, mc', m', h4, fun w0 R0 ρ0 w m0 ρc mc0 w' ρ u hm hc hh hr => ?_⟩
      have hg0 := hh.sub id _ hg
      have hmc' : ∀ j B, mc'.get j = some B → j ≠ id ∧ mc.get j = some B := fun j B hj => by
        rw [h1.1 j] at hj
        by_cases e : j = id
        · rw [if_pos e] at hj; cases hj
        · rw [if_neg e] at hj; exact ⟨e, hj⟩
      have hm' : ∀ j B, m'.get j = some B → (j = m.next ∧ B = .rows t l) ∨ (j ≠ m.next ∧ m.get j = some B) := fun j B hj => by
        rw [h3.1 j] at hj
        by_cases e : j = m.next
        · rw [if_pos e] at hj; injection hj with hj; exact .inl ⟨e, hj.symm⟩
        · rw [if_neg e] at hj; exact .inr ⟨e, hj⟩
      have hle := hh.le
      have hwsz := hm.size_le
      have e : Ext (RR w0 R0 ρ0 w m0 ρc mc0 w') ρ m.next w' (RR w0 R0 ρ0 w m0 ρc mc0 w') (upd ρ m.next (ρc id)) m'.next w' := ⟨by rw [h3.2]; omega, fun j hj => upd_other _ _ (by omega), fun b hb => ⟨hb, rfl⟩⟩
      refine ⟨upd ρ m.next (ρc id), ⟨by rw [h3.2]; omega, fun j hj => by rw [upd_other _ _ (by omega)]; exact hh.same j hj, fun j B hj => ?_, fun j B hj hs => ?_, fun j B hj hs => ?_, fun j j' B B' hj hj' hs hs' he => ?_, fun j B hj => ?_, fun j B hj => hh.sub j B (hmc' j B hj).2, fun j B hj hs id' C hid' hs' => ?_, fun b hb => ?_⟩, e, ?_⟩
      · rw [h3.2]
        rcases hm' j B hj with ⟨rfl, _⟩ | ⟨_, n2⟩
        · omega
        · have := hh.lt j B n2; omega
      · rcases hm' j B hj with ⟨rfl, rfl⟩ | ⟨n1, n2⟩
        · rw [upd_same] at hs ⊢; have := hc.lo id _ hg0 hs; omega
        · rw [upd_other _ _ n1] at hs ⊢; exact hh.lo j B n2 hs
      · rcases hm' j B hj with ⟨rfl, rfl⟩ | ⟨n1, n2⟩
        · rw [upd_same] at hs ⊢; exact hc.hi id _ hg0 hs
        · rw [upd_other _ _ n1] at hs ⊢; exact hh.hi j B n2 hs
      · rcases hm' j B hj with ⟨rfl, rfl⟩ | ⟨n1, n2⟩ <;> rcases hm' j' B' hj' with ⟨rfl, rfl⟩ | ⟨n1', n2'⟩
        · rfl
        · rw [upd_same] at hs he; rw [upd_other _ _ n1'] at hs' he
          exact absurd he.symm (hh.apart id _ hg hs j' B' n2' hs')
        · rw [upd_same] at hs' he; rw [upd_other _ _ n1] at hs he
          exact absurd he (hh.apart id _ hg hs' j B n2 hs)
        · rw [upd_other _ _ n1] at hs he; rw [upd_other _ _ n1'] at hs' he
          exact hh.inj j j' B B' n2 n2' hs hs' he
      · rcases hm' j B hj with ⟨rfl, rfl⟩ | ⟨n1, n2⟩
        · rw [upd_same]
          obtain ⟨b1, b2, b3⟩ := hc.box id _ hg0
          refine ⟨b1, b2, fun hp => ?_⟩
          obtain ⟨arr, el, fr, q1, q2, q3, q4⟩ := b3 hp
          refine ⟨arr, el, fr, q1, q2, q3, fun i hi => ?_⟩
          obtain ⟨cs, c1, c2, c3⟩ := q4 i hi
          exact ⟨cs, c1, c2, RepD.mono (fun b hb => ⟨.inr hb, rfl⟩) _ _ _ c3⟩
        · rw [upd_other _ _ n1]
          exact BoxRel.mono e B (fun _ => rfl) (hh.box j B n2)
      · obtain ⟨n1, n2⟩ := hmc' j B hj
        rcases hm' id' C hid' with ⟨rfl, rfl⟩ | ⟨k1, k2⟩
        · rw [upd_same] at hs' ⊢
          exact fun he => n1 (hc.inj id j _ B hg0 (hh.sub j B n2) hs' hs he).symm
        · rw [upd_other _ _ k1] at hs' ⊢
          exact hh.apart j B n2 hs id' C k2 hs'
      · have hne : solid (ρc id) (.rows t l) → (ρc id).1 ≠ b := fun hs => by
          rcases hb with hb | hb
          · have := hm.ro_lt hb; have := hc.lo id _ hg0 hs; omega
          · exact hc.ro_ne hb hg0 hs
        rcases hh.ro b hb with hb | ⟨g1, g2, g3⟩
        · exact .inl hb
        · refine .inr ⟨g1, g2, fun j B hj hs => ?_⟩
          rcases hm' j B hj with ⟨rfl, rfl⟩ | ⟨n1, n2⟩
          · rw [upd_same] at hs ⊢; exact hne hs
          · rw [upd_other _ _ n1] at hs ⊢; exact g3 j B n2 hs
      · obtain ⟨_, a, hu, ha⟩ := hr
        exact ⟨by rw [h3.2]; omega, a, by rw [upd_same]; exact hu, by rw [upd_same]; exact ha⟩
    · exact h.elim
  | undef => exact plain _ rfl h
  | top => exact h.elim
  | int a b => exact plain _ rfl h
  | bool a => exact plain _ rfl h
  | str a => exact plain _ rfl h
  | nilS => exact plain _ rfl h
  | list a b => exact plain _ rfl h
  | arr a b c => exact h.elim
  | ptr a b => exact h.elim
  | nilP => exact plain _ rfl h
  | eptr a b c d => exact plain _ rfl h
  | rptr a b c d => exact h.elim
  | agg cs =>
    dsimp only [adopt1] at h
    split at h
    · rename_i hd; exact plain _ hd h
    · exact h.elim
  | tuple cs =>
    dsimp only [adopt1] at h
    split at h
    · rename_i hd; exact plain _ hd h
    · exact h.elim
  | fn f a c =>
    dsimp only [adopt1] at h
    split at h
    · rename_i hd; exact plain _ hd h
    · exact h.elim
  | raw u => exact plain _ rfl h

theorem adoptL_holds : ∀ (vs : List SV) (mc m : Mem) (k : List SV → Mem → Mem → Tree α) (L : α → Prop), (adoptL vs mc m k).holds L → ∃ vs' mc' m', (k vs' mc' m').holds L ∧ ∀ w0 R0 ρ0 w m0 ρc mc0 w' ρ (us : List Value), MRel w0 R0 ρ0 w m0 → MRel w (RO w0 R0 ρ0 w m0) ρc w' mc0 → Hand w0 R0 ρ0 w m0 ρc mc0 w' ρ m mc → RepL (RO w (RO w0 R0 ρ0 w m0) ρc w' mc0) ρc mc0.next w' vs us →
    ∃ ρ', Hand w0 R0 ρ0 w m0 ρc mc0 w' ρ' m' mc' ∧ Ext (RR w0 R0 ρ0 w m0 ρc mc0 w') ρ m.next w' (RR w0 R0 ρ0 w m0 ρc mc0 w') ρ' m'.next w' ∧ RepL (RR w0 R0 ρ0 w m0 ρc mc0 w') ρ' m'.next w' vs' us
  | [], mc, m, k, L, h => ⟨[], mc, m, h, fun w0 R0 ρ0 w m0 ρc mc0 w' ρ us hm hc hh hr => ⟨ρ, hh, Ext.refl _ _ _ _, hr⟩⟩
  | v :: vs, mc, m, k, L, h => by
    change (adopt1 v mc m fun v mc m => adoptL vs mc m fun vs mc m => k (v :: vs) mc m).holds L at h
    obtain ⟨v', mc1, m1, h1, h2⟩ := adopt1_holds h
    obtain ⟨vs', mc', m', h3, h4⟩ := adoptL_holds vs mc1 m1 _ L h1
    refine ⟨v' :: vs', mc', m', h3, fun w0 R0 ρ0 w m0 ρc mc0 w' ρ us hm hc hh hr => ?_⟩
    obtain ⟨u, us', rfl, r1, r2⟩ := hr
    obtain ⟨ρ1, g1, g2, g3⟩ := h2 w0 R0 ρ0 w m0 ρc mc0 w' ρ u hm hc hh r1
    obtain ⟨ρ', g4, g5, g6⟩ := h4 w0 R0 ρ0 w m0 ρc mc0 w' ρ1 us' hm hc g1 r2
    exact ⟨ρ', g4, g2.trans g5, u, us', rfl, Rep.mono g5 _ _ g3, g6⟩

theorem adopt_holds {v : SV} {mc m : Mem} {k : SV → Mem → Tree α} {L : α → Prop} (h : (adopt v mc m k).holds L) : ∃ v' m', (k v' m').holds L ∧ ∀ w0 R0 ρ w ρc w' (u : Value), MRel w0 R0 ρ w m → MRel w (RO w0 R0 ρ w m) ρc w' mc → Rep (RO w (RO w0 R0 ρ w m) ρc w' mc) ρc mc.next w' v u → OpOut w0 R0 ρ w m v' m' u w' := by
  have one : ∀ v : SV, (adopt1 v mc m fun v _ m => k v m).holds L → ∃ v' m', (k v' m').holds L ∧ ∀ w0 R0 ρ w ρc w' (u : Value), MRel w0 R0 ρ w m → MRel w (RO w0 R0 ρ w m) ρc w' mc → Rep (RO w (RO w0 R0 ρ w m) ρc w' mc) ρc mc.next w' v u → OpOut w0 R0 ρ w m v' m' u w' := by
    intro v h
    obtain ⟨v', mc', m', h1, h2⟩ := adopt1_holds h
    refine ⟨v', m', h1, fun w0 R0 ρ w ρc w' u hm hc hr => ?_⟩
    obtain ⟨ρ', g1, g2, g3⟩ := h2 w0 R0 ρ w m ρc mc w' ρ u hm hc (Hand.start hm hc) hr
    obtain ⟨g4, g5⟩ := g1.finish hm hc
    exact ⟨ρ', g4, g5, Rep.mono ⟨Nat.le_refl _, fun _ _ => rfl, fun b hb => ⟨g1.ro b hb, rfl⟩⟩ _ _ g3⟩
  have many : ∀ (vs : List SV) (mk : List SV → SV) (mkv : List Value → Value), (∀ (R : Nat → Prop) (ρ : Rho) (n : Nat) (w : World) cs u, Rep R ρ n w (mk cs) u ↔ ∃ us, u = mkv us ∧ RepL R ρ n w cs us) → (adoptL vs mc m fun vs _ m => k (mk vs) m).holds L → ∃ v' m', (k v' m').holds L ∧ ∀ w0 R0 ρ w ρc w' (u : Value), MRel w0 R0 ρ w m → MRel w (RO w0 R0 ρ w m) ρc w' mc → Rep (RO w (RO w0 R0 ρ w m) ρc w' mc) ρc mc.next w' (mk vs) u → OpOut w0 R0 ρ w m v' m' u w' := by
    intro vs mk mkv hmk h
    obtain ⟨vs', mc', m', h1, h2⟩ := adoptL_holds vs mc m _ L h
    refine ⟨_, m', h1, fun w0 R0 ρ w ρc w' u hm hc hr => ?_⟩
    obtain ⟨us, rfl, hr'⟩ := (hmk _ _ _ _ _ _).1 hr
    obtain ⟨ρ', g1, g2, g3⟩ := h2 w0 R0 ρ w m ρc mc w' ρ us hm hc (Hand.start hm hc) hr'
    obtain ⟨g4, g5⟩ := g1.finish hm hc
    exact ⟨ρ', g4, g5, (hmk _ _ _ _ _ _).2 ⟨us, rfl, RepL.mono ⟨Nat.le_refl _, fun _ _ => rfl, fun b hb => ⟨g1.ro b hb, rfl⟩⟩ _ _ g3⟩⟩
  cases v with
  | tuple vs => exact many vs .tuple (fun us => .tuple ⟨us⟩) (fun _ _ _ _ _ _ => Iff.rfl) h
  | agg vs => exact many vs .agg (fun us => .agg ⟨us⟩) (fun _ _ _ _ _ _ => Iff.rfl) h
  | _ => exact one _ h
end
end Go.Sx
