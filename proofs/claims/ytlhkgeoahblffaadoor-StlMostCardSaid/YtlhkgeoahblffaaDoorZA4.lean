/-
  Sx14: calls: the frame of a call, its results, what is handed back; what the trees of summaries say.
  SX 23: what is handed back as data, and regions in any order whose writers wait for one another.
  SX 27: operations in memories that agree where they look; regions in any order, by what each operation reads and writes.
  SX 28: regions in any order, by what each operation reads and writes: one walk of the text's order serves every order.
  SX 29: the walk of such a region by index; what the memory is when a set of its operations is done.
-/
import Derived.Test.YtlhkgeoahblffaaDoorZA3
set_option linter.unusedSimpArgs false
set_option linter.unusedVariables false
namespace Go.Sx
open Go.RowKit
section
variable {P : Program} {E : Env} {α : Type}

/-! ### Values that name no box -/

theorem data_agg (cs : List SV) : (SV.agg cs).data = dataL cs := by
  induction cs with
  | nil => rfl
  | cons x xs ih =>
    show (match x.data with | true => (SV.agg xs).data | false => false) = (match x.data with | true => dataL xs | false => false)
    rw [ih]
theorem data_tuple (cs : List SV) : (SV.tuple cs).data = dataL cs := data_agg cs
theorem data_fn (f : Nat) (a c : List SV) : (SV.fn f a c).data = match dataL a with | true => dataL c | false => false := by
  rw [← data_agg a, ← data_agg c]; rfl
theorem dataL_cons (x : SV) (xs : List SV) : dataL (x :: xs) = match x.data with | true => dataL xs | false => false := rfl

mutual
theorem Rep.data {R R' : Nat → Prop} {ρ ρ' : Rho} {n n' : Nat} {w : World} (hR : ∀ b, R b → R' b) : ∀ (x : SV) (v : Value), x.data = true → Rep R ρ n w x v → Rep R' ρ' n' w x v
  | .undef, _, _, h => h
  | .top, _, _, _ => trivial
  | .int _ _, _, _, h => h
  | .bool _, _, _, h => h
  | .str _, _, _, h => h
  | .nilS, _, _, h => h
  | .list t l, v, _, h => RepD.mono (fun b hb => ⟨hR b hb, rfl⟩) (.list t) l [v] h
  | .row _, _, hd, _ => by cases hd
  | .arr _ _ _, _, hd, _ => by cases hd
  | .ptr _ _, _, hd, _ => by cases hd
  | .nilP, _, _, h => h
  | .eptr t l i off, v, _, h => by
    obtain ⟨b, o, h1, h2, h3⟩ := h
    exact ⟨b, o, h1, h2, h3.mono fun b hb => ⟨hR b hb, rfl⟩⟩
  | .rptr _ _ _ _, _, hd, _ => by cases hd
  | .agg cs, v, hd, h => by
    obtain ⟨vs, h1, h2⟩ := h
    exact ⟨vs, h1, RepL.data hR cs vs (by rw [← data_agg]; exact hd) h2⟩
  | .tuple cs, v, hd, h => by
    obtain ⟨vs, h1, h2⟩ := h
    exact ⟨vs, h1, RepL.data hR cs vs (by rw [← data_tuple]; exact hd) h2⟩
  | .fn f first cap, v, hd, h => by
    obtain ⟨vs, us, h1, h2, h3⟩ := h
    rw [data_fn] at hd
    cases h4 : dataL first with
    | false => rw [h4] at hd; cases hd
    | true =>
      rw [h4] at hd
      exact ⟨vs, us, h1, RepL.data hR first vs h4 h2, RepL.data hR cap us hd h3⟩
  | .raw _, _, _, h => h
theorem RepL.data {R R' : Nat → Prop} {ρ ρ' : Rho} {n n' : Nat} {w : World} (hR : ∀ b, R b → R' b) : ∀ (xs : List SV) (vs : List Value), dataL xs = true → RepL R ρ n w xs vs → RepL R' ρ' n' w xs vs
  | [], _, _, h => h
  | x :: xs, vs, hd, h => by
    obtain ⟨u, us, h1, h2, h3⟩ := h
    rw [dataL_cons] at hd
    cases h4 : x.data with
    | false => rw [h4] at hd; cases hd
    | true =>
      rw [h4] at hd
      exact ⟨u, us, h1, Rep.data hR x u h4 h2, RepL.data hR xs us hd h3⟩
end

/-! ### The frame of a call -/

theorem make_go_holds : ∀ (args : List SV) (i : Nat) (fr : Fr) (k : Fr → Tree α) (L : α → Prop), (List.rec (motive := fun _ => Nat → Fr → (Fr → Tree α) → Tree α) (fun _ fr k => k fr) (fun x _ ih i fr k => frc x fun x => fr.set i x fun fr => ih (i + 1) fr k) args i fr k).holds L →
    ∃ fr', (k fr').holds L ∧ fr'.size = fr.size ∧ (args = [] ∨ i + args.length ≤ fr.size) ∧ ∀ t, fr'.get t = if i ≤ t ∧ t < i + args.length then args.getD (t - i) .undef else fr.get t
  | [], i, fr, k, L, h => ⟨fr, h, rfl, .inl rfl, fun t => by rw [if_neg (by simp)]⟩
  | x :: args, i, fr, k, L, h => by
    change (frc x fun x => fr.set i x fun fr => List.rec (motive := fun _ => Nat → Fr → (Fr → Tree α) → Tree α) (fun _ fr k => k fr) (fun x _ ih i fr k => frc x fun x => fr.set i x fun fr => ih (i + 1) fr k) args (i + 1) fr k).holds L at h
    rw [frc_eq] at h
    obtain ⟨fr1, h1, h2⟩ := Fr.set_holds h
    obtain ⟨fr', h3, h4, h5, h6⟩ := make_go_holds args (i + 1) fr1 k L h2
    have hlt := h1.2.1 i rfl
    refine ⟨fr', h3, h4.trans h1.1, .inr ?_, fun t => ?_⟩
    · rcases h5 with rfl | h5
      · exact hlt
      · rw [h1.1] at h5; simp only [List.length_cons]; omega
    · rw [h6 t]
      simp only [List.length_cons]
      by_cases h7 : i + 1 ≤ t ∧ t < i + 1 + args.length
      · rw [if_pos h7, if_pos ⟨by omega, by omega⟩, show t - i = (t - (i + 1)) + 1 by omega, List.getD_cons_succ]
      · rw [if_neg h7, h1.2.2 t]
        by_cases h8 : i = t
        · subst h8
          rw [if_pos rfl, if_pos ⟨by omega, by omega⟩]; simp
        · have : ¬ (some i = some t) := fun e => h8 (by injection e)
          rw [if_neg this, if_neg (by omega)]

theorem make_holds {size : Nat} {args : List SV} {k : Fr → Tree α} {L : α → Prop} (h : (Fr.make size args k).holds L) : ∃ fr, (k fr).holds L ∧ fr.size = size ∧ (args = [] ∨ args.length ≤ size) ∧ ∀ t, fr.get t = args.getD t .undef := by
  obtain ⟨fr, h1, h2, h3, h4⟩ := make_go_holds args 0 ⟨size, .e⟩ k L h
  refine ⟨fr, h1, h2, h3.imp id (fun h => by simpa using h), fun t => ?_⟩
  rw [h4 t]
  by_cases ht : t < args.length
  · rw [if_pos ⟨Nat.zero_le _, by omega⟩]; simp
  · rw [if_neg (by omega)]
    have : args.getD t .undef = .undef := by simp [List.getD, List.getElem?_eq_none (show args.length ≤ t by omega)]
    rw [this]; rfl

theorem frame_rel {R : Nat → Prop} {ρ : Rho} {n : Nat} {w : World} {size : Nat} {args : List SV} {vs : List Value} {fr : Fr} (h1 : fr.size = size) (h2 : args = [] ∨ args.length ≤ size) (h3 : ∀ t, fr.get t = args.getD t .undef) (h : RepL R ρ n w args vs) :
    FRel R ρ n w fr (vs.toArray ++ Array.replicate (size - vs.toArray.size) Go.undef) := by
  have hl := h.length
  have hle : args.length ≤ size := by
    rcases h2 with rfl | h2
    · simp
    · exact h2
  refine ⟨by rw [h1]; simp; omega, fun t => ?_⟩
  rw [h3 t]
  by_cases ht : t < args.length
  · obtain ⟨c, hc⟩ : ∃ c, args[t]? = some c := ⟨_, List.getElem?_eq_getElem ht⟩
    obtain ⟨v, hv, hr⟩ := h.get hc
    have e1 : args.getD t .undef = c := by simp [List.getD, hc]
    have e2 : (vs.toArray ++ Array.replicate (size - vs.toArray.size) Go.undef).getD t Go.undef = v := by
      rw [Array.getD_eq_getD_getElem?, Array.getElem?_append_left (by simp; omega)]
      simp [hv]
    rw [e1, e2]; exact hr
  · have e1 : args.getD t .undef = .undef := by simp [List.getD, List.getElem?_eq_none (show args.length ≤ t by omega)]
    have e2 : (vs.toArray ++ Array.replicate (size - vs.toArray.size) Go.undef).getD t Go.undef = Go.undef := by
      rw [Array.getD_eq_getD_getElem?, Array.getElem?_append_right (by simp; omega), Array.getElem?_replicate]
      split <;> rfl
    rw [e1, e2]; rfl

/-! ### Results -/

/-- One result of a call. -/
def resVal (tmps : Array Value) : ResultVar → Sem Value
  | .tmp t => pure (tmps.getD t Go.undef)
  | .cell a t => do loadVar t (← asAddr (tmps.getD a Go.undef))

theorem results_eq (fn : Func) (tmps : Array Value) : Go.results fn tmps = (do
    let vs ← fn.results.mapM (resVal tmps)
    pure (if h : vs.size = 1 then vs[0] else .tuple vs)) := by
  unfold Go.results
  congr 1

theorem resOf_holds (hE : EOK P E) {m : Mem} {fr : Fr} {r : ResultVar} {k : SV → Tree α} {L : α → Prop} (h : (resOf E m fr r k).holds L) : ∃ v, (k v).holds L ∧ ∀ ⦃ds : List Deferred⦄ w0 R0 ρ w a, SRelD ds w0 R0 ρ w fr m a →
    ∃ u, (resVal a.tmps r).run P w = .ok u w ∧ Rep (RO w0 R0 ρ w m) ρ m.next w v u := by
  cases r with
  | tmp t =>
    change (frc (fr.get t) k).holds L at h
    rw [frc_eq] at h
    exact ⟨_, h, fun ds w0 R0 ρ w a hs => ⟨_, rfl, hs.2.1.2 t⟩⟩
  | cell a' t =>
    change (opLoad E t (fr.get a') .auto m fun v _ _ => k v).holds L at h
    obtain ⟨v, h1, h2⟩ := opLoad_sound hE h
    refine ⟨v, h1, fun ds w0 R0 ρ w a hs => ?_⟩
    obtain ⟨u, h3, h4⟩ := h2 m (Up.refl m) w0 R0 ρ w _ hs.1 (hs.2.1.2 a')
    refine ⟨u, ?_, h4⟩
    show ((do loadVar t (← asAddr (a.tmps.getD a' Go.undef)) : Sem Value)).run P w = _
    generalize a.tmps.getD a' Go.undef = av at h3 ⊢
    cases av <;> try (simp [Instr.loadAt, Instr.sureAddr] at h3; done)
    rename_i o
    cases o with
    | none => simp [Instr.loadAt, Instr.sureAddr] at h3
    | some ad => simpa [Instr.loadAt, Instr.sureAddr, asAddr] using h3

theorem resList_holds (hE : EOK P E) {m : Mem} {fr : Fr} : ∀ (rs : List ResultVar) (k : List SV → Tree α) (L : α → Prop), (resList E m fr rs k).holds L → ∃ vs, (k vs).holds L ∧ vs.length = rs.length ∧ ∀ ⦃ds : List Deferred⦄ w0 R0 ρ w a, SRelD ds w0 R0 ρ w fr m a →
    ∃ us, (rs.mapM (resVal a.tmps)).run P w = .ok us w ∧ RepL (RO w0 R0 ρ w m) ρ m.next w vs us
  | [], k, L, h => ⟨[], h, rfl, fun ds w0 R0 ρ w a hs => ⟨[], rfl, rfl⟩⟩
  | r :: rs, k, L, h => by
    change (resOf E m fr r fun v => resList E m fr rs fun vs => k (v :: vs)).holds L at h
    obtain ⟨v, h1, h2⟩ := resOf_holds hE h
    obtain ⟨vs, h3, h4, h5⟩ := resList_holds hE rs _ L h1
    refine ⟨v :: vs, h3, by simp [h4], fun ds w0 R0 ρ w a hs => ?_⟩
    obtain ⟨u, h6, h7⟩ := h2 w0 R0 ρ w a hs
    obtain ⟨us, h8, h9⟩ := h5 w0 R0 ρ w a hs
    refine ⟨u :: us, ?_, u, us, rfl, h7, h9⟩
    rw [List.mapM_cons]
    simp only [Sem.run_bind, h6, h8, Result.andThen_ok, Sem.run_pure]

theorem results_holds (hE : EOK P E) {fn : Func} {m : Mem} {fr : Fr} {k : SV → Tree α} {L : α → Prop} (h : (results E fn m fr k).holds L) : ∃ v, (k v).holds L ∧ ∀ ⦃ds : List Deferred⦄ w0 R0 ρ w a, SRelD ds w0 R0 ρ w fr m a → ∃ u, (Go.results fn a.tmps).run P w = .ok u w ∧ Rep (RO w0 R0 ρ w m) ρ m.next w v u := by
  obtain ⟨vs, h1, h2, h3⟩ := resList_holds hE fn.results.toList _ L h
  have run : ∀ (a : Act) (w : World) (us : List Value), (fn.results.toList.mapM (resVal a.tmps)).run P w = .ok us w → (Go.results fn a.tmps).run P w = .ok (if h : us.toArray.size = 1 then us.toArray[0] else .tuple us.toArray) w := by
    intro a w us hu
    rw [results_eq, Array.mapM_eq_mapM_toList]
    simp only [Sem.run_bind, Sem.run_map, hu]
    rfl
  split at h1
  · rename_i v
    refine ⟨v, h1, fun ds w0 R0 ρ w a hs => ?_⟩
    obtain ⟨us, h4, u, us', rfl, h5, h6⟩ := h3 w0 R0 ρ w a hs
    rw [show us' = [] from h6] at h4
    exact ⟨u, by rw [run a w _ h4]; rfl, h5⟩
  · rename_i hne
    refine ⟨_, h1, fun ds w0 R0 ρ w a hs => ?_⟩
    obtain ⟨us, h4, h5⟩ := h3 w0 R0 ρ w a hs
    have hl := h5.length
    refine ⟨.tuple us.toArray, ?_, us, rfl, h5⟩
    rw [run a w _ h4, dif_neg]
    intro h6
    have : vs.length = 1 := by simp at h6; omega
    obtain ⟨v, hv⟩ := List.length_eq_one_iff.1 this
    exact hne v hv

/-! ### Trees of summaries -/

def Tree.says {β : Type} (Φ : β → Prop) : Tree β → Prop
  | .leaf a => Φ a
  | .node b t f => (b = true → t.says Φ) ∧ (b = false → f.says Φ)
  | .req b t => b = true → t.says Φ
  | .fail _ => True

theorem bindT_holds {Φ : SV → Prop} {m : Mem} {κ : Kont α} {L : α → Prop} : ∀ (t : Tree SV) (p : Plan), (bindT m κ t p).holds L → t.says Φ → ∃ v p', (κ v p' m).holds L ∧ Φ v
  | .leaf v, p, h, hs => ⟨v, p, h, hs⟩
  | .node b t f, p, h, hs => by
    obtain ⟨p', h⟩ := dec_holds (k := fun b p => match b with
      | true => bindT m κ t p
      | false => bindT m κ f p) h
    cases b with
    | true => exact bindT_holds t p' h (hs.1 rfl)
    | false => exact bindT_holds f p' h (hs.2 rfl)
  | .req b t, p, h, hs => bindT_holds t p h.2 (hs h.1)
  | .fail _, _, h, _ => h.elim

/-- A call that leaves the caller's memory alone, by its values. -/
def SCall (P : Program) (f : FuncId) (args : List SV) (v : SV) : Prop := ∀ m, SemCall P m v m f args

/-- A call that turns its caller's memory, by its values. -/
def WCall (P : Program) (f : FuncId) (args : List SV) (m : Mem) (x : SV × Mem) : Prop := SemCall P m x.1 x.2 f args

/-- A call of a function that turns one box of its caller's. -/
def BCall (P : Program) (f : FuncId) (args : List SV) (B : Box) (x : Bool × SV × Box) : Prop :=
  ∀ m m' id, m.get id = some B → MSet m id (some x.2.2) m' → XCall P f (.ptr id 0 :: args) m (match x.1 with | true => .pan x.2.1 m' | false => .ok x.2.1 m')
/-- What is known of functions by their numbers: those that leave the memory alone, and those that turn it. -/
def SumOK (P : Program) (E : Env) : Prop := (∀ f s args t, E.sum f = some s → s args = some t → t.says (SCall P f args)) ∧ (∀ f s args m t, E.wr f = some s → s args m = some t → t.says (WCall P f args m)) ∧ (∀ f s args m t, E.pn f = some s → s args m = some t → t.says (XCall P f args m)) ∧ ∀ f s args B t, E.bx f = some s → s args B = some t → t.says (BCall P f args B)

theorem bindM_holds {Φ : SV × Mem → Prop} {κ : Kont α} {L : α → Prop} : ∀ (t : Tree (SV × Mem)) (p : Plan), (bindM κ t p).holds L → t.says Φ → ∃ x p', (κ x.1 p' x.2).holds L ∧ Φ x
  | .leaf x, p, h, hs => ⟨x, p, h, hs⟩
  | .node b t f, p, h, hs => by
    unfold bindM at h
    obtain ⟨p', h⟩ := dec_holds h
    cases b with
    | true => exact bindM_holds t p' h (hs.1 rfl)
    | false => exact bindM_holds f p' h (hs.2 rfl)
  | .req b t, p, h, hs => bindM_holds t p h.2 (hs h.1)
  | .fail _, _, h, _ => h.elim
theorem bindB_holds {Φ : Bool × SV × Box → Prop} {κ : SV → Plan → Box → Tree α} {L : α → Prop} : ∀ (t : Tree (Bool × SV × Box)) (p : Plan), (bindB κ t p).holds L → t.says Φ → ∃ v B p', (κ v p' B).holds L ∧ Φ (false, v, B)
  | .leaf (false, v, B), p, h, hs => ⟨v, B, p, h, hs⟩
  | .leaf (true, v, B), p, h, hs => h.elim
  | .node b t f, p, h, hs => by
    unfold bindB at h
    obtain ⟨p', h⟩ := dec_holds h
    cases b with
    | true => exact bindB_holds t p' h (hs.1 rfl)
    | false => exact bindB_holds f p' h (hs.2 rfl)
  | .req b t, p, h, hs => bindB_holds t p h.2 (hs h.1)
  | .fail _, _, h, _ => h.elim
theorem bindX_holds {Φ : Ex → Prop} {κ : Kont α} {esc : SV → Mem → Tree α} {L : α → Prop} : ∀ (t : Tree Ex) (p : Plan), (bindX κ esc t p).holds L → t.says Φ → (∃ v m p', (κ v p' m).holds L ∧ Φ (.ok v m)) ∨ ∃ v m, (esc v m).holds L ∧ Φ (.pan v m)
  | .leaf (.ok v m), p, h, hs => .inl ⟨v, m, p, h, hs⟩
  | .leaf (.pan v m), p, h, hs => .inr ⟨v, m, h, hs⟩
  | .node b t f, p, h, hs => by
    unfold bindX at h
    obtain ⟨p', h⟩ := dec_holds h
    cases b with
    | true => exact bindX_holds t p' h (hs.1 rfl)
    | false => exact bindX_holds f p' h (hs.2 rfl)
  | .req b t, p, h, hs => bindX_holds t p h.2 (hs h.1)
  | .fail _, _, h, _ => h.elim

/-! ### What a call in a memory of its own hands back -/

/-- What may be read: what the caller could read ahead of the call, and what the callee can. -/
abbrev RR (w0 : World) (R0 : Nat → Prop) (ρ0 : Rho) (w : World) (m0 : Mem) (ρc : Rho) (mc0 : Mem) (w' : World) (b : Nat) : Prop :=
  RO w0 R0 ρ0 w m0 b ∨ RO w (RO w0 R0 ρ0 w m0) ρc w' mc0 b

/-- The caller's side and the callee's, while rows change hands. -/
structure Hand (w0 : World) (R0 : Nat → Prop) (ρ0 : Rho) (w : World) (m0 : Mem) (ρc : Rho) (mc0 : Mem) (w' : World) (ρ : Rho) (m mc : Mem) : Prop where
  le : m0.next ≤ m.next
  same : ∀ id, id < m0.next → ρ id = ρ0 id
  lt : ∀ id B, m.get id = some B → id < m.next
  lo : ∀ id B, m.get id = some B → solid (ρ id) B → w0.heap.size ≤ (ρ id).1
  hi : ∀ id B, m.get id = some B → solid (ρ id) B → (ρ id).1 < w'.heap.size
  inj : ∀ id id' B B', m.get id = some B → m.get id' = some B' → solid (ρ id) B → solid (ρ id') B' → (ρ id).1 = (ρ id').1 → id = id'
  box : ∀ id B, m.get id = some B → BoxRel (RR w0 R0 ρ0 w m0 ρc mc0 w') ρ m.next w' (ρ id) B
  sub : ∀ k B, mc.get k = some B → mc0.get k = some B
  apart : ∀ k B, mc.get k = some B → solid (ρc k) B → ∀ id C, m.get id = some C → solid (ρ id) C → (ρ id).1 ≠ (ρc k).1
  ro : ∀ b, RR w0 R0 ρ0 w m0 ρc mc0 w' b → RO w0 R0 ρ w' m b

theorem Hand.start {w0 : World} {R0 : Nat → Prop} {ρ0 : Rho} {w : World} {m0 : Mem} {ρc : Rho} {mc0 : Mem} {w' : World} (hm : MRel w0 R0 ρ0 w m0) (hc : MRel w (RO w0 R0 ρ0 w m0) ρc w' mc0) : Hand w0 R0 ρ0 w m0 ρc mc0 w' ρ0 m0 mc0 := by
  have hsz := hc.below.size
  have hkeep : ∀ b, RO w0 R0 ρ0 w m0 b → RO w0 R0 ρ0 w' m0 b := fun b hb => by
    rcases hb with hb | ⟨h1, h2, h3⟩
    · exact .inl hb
    · exact .inr ⟨h1, by omega, h3⟩
  have e : Ext (RO w0 R0 ρ0 w m0) ρ0 m0.next w (RR w0 R0 ρ0 w m0 ρc mc0 w') ρ0 m0.next w' := ⟨Nat.le_refl _, fun _ _ => rfl, fun b hb => ⟨.inl hb, hc.below.block b (hm.ro_lt hb)⟩⟩
  refine ⟨Nat.le_refl _, fun _ _ => rfl, hm.lt, hm.lo, fun id B h1 h2 => ?_, hm.inj, fun id B h1 => BoxRel.mono e B (fun hs => hc.below.block _ (hm.hi id B h1 hs)) (hm.box id B h1), fun _ _ h => h, fun k B h1 h2 id C h3 h4 => ?_, fun b hb => ?_⟩
  · have := hm.hi id B h1 h2; omega
  · have := hm.hi id C h3 h4; have := hc.lo k B h1 h2; omega
  · rcases hb with hb | ⟨hb, _⟩ | ⟨h1, h2, _⟩
    · exact hkeep b hb
    · exact hkeep b hb
    · have := hm.size_le
      exact .inr ⟨by omega, h2, fun id C h3 h4 => by have := hm.hi id C h3 h4; omega⟩

theorem Hand.finish {w0 : World} {R0 : Nat → Prop} {ρ0 : Rho} {w : World} {m0 : Mem} {ρc : Rho} {mc0 : Mem} {w' : World} {ρ : Rho} {m mc : Mem} (hm : MRel w0 R0 ρ0 w m0) (hc : MRel w (RO w0 R0 ρ0 w m0) ρc w' mc0) (h : Hand w0 R0 ρ0 w m0 ρc mc0 w' ρ m mc) :
    MRel w0 R0 ρ w' m ∧ MExt w0 R0 ρ0 w m0 ρ w' m := by
  have e : Ext (RR w0 R0 ρ0 w m0 ρc mc0 w') ρ m.next w' (RO w0 R0 ρ w' m) ρ m.next w' := ⟨Nat.le_refl _, fun _ _ => rfl, fun b hb => ⟨h.ro b hb, rfl⟩⟩
  refine ⟨⟨hm.below.trans (hc.below.mono hm.size_le), h.lt, h.lo, h.hi, h.inj, fun id B h1 => BoxRel.mono e B (fun _ => rfl) (h.box id B h1)⟩, h.le, h.same, fun b hb => ⟨h.ro b (.inl hb), hc.below.block b (hm.ro_lt hb)⟩⟩

theorem adopt1_holds {v : SV} {mc m : Mem} {k : SV → Mem → Mem → Tree α} {L : α → Prop} (h : (adopt1 v mc m k).holds L) : ∃ v' mc' m', (k v' mc' m').holds L ∧ ∀ w0 R0 ρ0 w m0 ρc mc0 w' ρ (u : Value), MRel w0 R0 ρ0 w m0 → MRel w (RO w0 R0 ρ0 w m0) ρc w' mc0 → Hand w0 R0 ρ0 w m0 ρc mc0 w' ρ m mc → Rep (RO w (RO w0 R0 ρ0 w m0) ρc w' mc0) ρc mc0.next w' v u →
    ∃ ρ', Hand w0 R0 ρ0 w m0 ρc mc0 w' ρ' m' mc' ∧ Ext (RR w0 R0 ρ0 w m0 ρc mc0 w') ρ m.next w' (RR w0 R0 ρ0 w m0 ρc mc0 w') ρ' m'.next w' ∧ Rep (RR w0 R0 ρ0 w m0 ρc mc0 w') ρ' m'.next w' v' u := by
  have plain : ∀ v : SV, v.data = true → (k v mc m).holds L → ∃ v' mc' m', (k v' mc' m').holds L ∧ ∀ w0 R0 ρ0 w m0 ρc mc0 w' ρ (u : Value), MRel w0 R0 ρ0 w m0 → MRel w (RO w0 R0 ρ0 w m0) ρc w' mc0 → Hand w0 R0 ρ0 w m0 ρc mc0 w' ρ m mc → Rep (RO w (RO w0 R0 ρ0 w m0) ρc w' mc0) ρc mc0.next w' v u →
      ∃ ρ', Hand w0 R0 ρ0 w m0 ρc mc0 w' ρ' m' mc' ∧ Ext (RR w0 R0 ρ0 w m0 ρc mc0 w') ρ m.next w' (RR w0 R0 ρ0 w m0 ρc mc0 w') ρ' m'.next w' ∧ Rep (RR w0 R0 ρ0 w m0 ρc mc0 w') ρ' m'.next w' v' u :=
    fun v hd h => ⟨v, mc, m, h, fun w0 R0 ρ0 w m0 ρc mc0 w' ρ u hm hc hh hr => ⟨ρ, hh, Ext.refl _ _ _ _, Rep.data (fun b hb => .inr hb) v u hd hr⟩⟩
  cases v with
  | row id =>
    dsimp only [adopt1] at h
    split at h
    · rename_i t l hg
      obtain ⟨mc', h1, h2⟩ := Mem.set_holds h
      obtain ⟨m', h3, h4⟩ := Mem.push_holds h2
      refine ⟨_, mc', m', h4, fun w0 R0 ρ0 w m0 ρc mc0 w' ρ u hm hc hh hr => ?_⟩
      have hg0 := hh.sub id _ hg
      have hmc' : ∀ j B, mc'.get j = some B → j ≠ id ∧ mc.get j = some B := fun j B hj => by
        rw [h1.1 j] at hj
        by_cases e : j = id
        · rw [if_pos e] at hj; cases hj
        · rw [if_neg e] at hj; exact ⟨e, hj⟩
      have hm' : ∀ j B, m'.get j = some B → (j = m.next ∧ B = .rows t l) ∨ (j ≠ m.next ∧ m.get j = some B) := fun j B hj => by
        rw [h3.1 j] at hj
        by_cases e : j = m.next
        · rw [if_pos e] at hj; injection hj with hj; exact .inl ⟨e, hj.symm⟩
        · rw [if_neg e] at hj; exact .inr ⟨e, hj⟩
      have hle := hh.le
      have hwsz := hm.size_le
      have e : Ext (RR w0 R0 ρ0 w m0 ρc mc0 w') ρ m.next w' (RR w0 R0 ρ0 w m0 ρc mc0 w') (upd ρ m.next (ρc id)) m'.next w' := ⟨by rw [h3.2]; omega, fun j hj => upd_other _ _ (by omega), fun b hb => ⟨hb, rfl⟩⟩
      refine ⟨upd ρ m.next (ρc id), ⟨by rw [h3.2]; omega, fun j hj => by rw [upd_other _ _ (by omega)]; exact hh.same j hj, fun j B hj => ?_, fun j B hj hs => ?_, fun j B hj hs => ?_, fun j j' B B' hj hj' hs hs' he => ?_, fun j B hj => ?_, fun j B hj => hh.sub j B (hmc' j B hj).2, fun j B hj hs id' C hid' hs' => ?_, fun b hb => ?_⟩, e, ?_⟩
      · rw [h3.2]
        rcases hm' j B hj with ⟨rfl, _⟩ | ⟨_, n2⟩
        · omega
        · have := hh.lt j B n2; omega
      · rcases hm' j B hj with ⟨rfl, rfl⟩ | ⟨n1, n2⟩
        · rw [upd_same] at hs ⊢; have := hc.lo id _ hg0 hs; omega
        · rw [upd_other _ _ n1] at hs ⊢; exact hh.lo j B n2 hs
      · rcases hm' j B hj with ⟨rfl, rfl⟩ | ⟨n1, n2⟩
        · rw [upd_same] at hs ⊢; exact hc.hi id _ hg0 hs
        · rw [upd_other _ _ n1] at hs ⊢; exact hh.hi j B n2 hs
      · rcases hm' j B hj with ⟨rfl, rfl⟩ | ⟨n1, n2⟩ <;> rcases hm' j' B' hj' with ⟨rfl, rfl⟩ | ⟨n1', n2'⟩
        · rfl
        · rw [upd_same] at hs he; rw [upd_other _ _ n1'] at hs' he
          exact absurd he.symm (hh.apart id _ hg hs j' B' n2' hs')
        · rw [upd_same] at hs' he; rw [upd_other _ _ n1] at hs he
          exact absurd he (hh.apart id _ hg hs' j B n2 hs)
        · rw [upd_other _ _ n1] at hs he; rw [upd_other _ _ n1'] at hs' he
          exact hh.inj j j' B B' n2 n2' hs hs' he
      · rcases hm' j B hj with ⟨rfl, rfl⟩ | ⟨n1, n2⟩
        · rw [upd_same]
          obtain ⟨b1, b2, b3⟩ := hc.box id _ hg0
          refine ⟨b1, b2, fun hp => ?_⟩
          obtain ⟨arr, el, fr, q1, q2, q3, q4⟩ := b3 hp
          refine ⟨arr, el, fr, q1, q2, q3, fun i hi => ?_⟩
          obtain ⟨cs, c1, c2, c3⟩ := q4 i hi
          exact ⟨cs, c1, c2, RepD.mono (fun b hb => ⟨.inr hb, rfl⟩) _ _ _ c3⟩
        · rw [upd_other _ _ n1]
          exact BoxRel.mono e B (fun _ => rfl) (hh.box j B n2)
      · obtain ⟨n1, n2⟩ := hmc' j B hj
        rcases hm' id' C hid' with ⟨rfl, rfl⟩ | ⟨k1, k2⟩
        · rw [upd_same] at hs' ⊢
          exact fun he => n1 (hc.inj id j _ B hg0 (hh.sub j B n2) hs' hs he).symm
        · rw [upd_other _ _ k1] at hs' ⊢
          exact hh.apart j B n2 hs id' C k2 hs'
      · have hne : solid (ρc id) (.rows t l) → (ρc id).1 ≠ b := fun hs => by
          rcases hb with hb | hb
          · have := hm.ro_lt hb; have := hc.lo id _ hg0 hs; omega
          · exact hc.ro_ne hb hg0 hs
        rcases hh.ro b hb with hb | ⟨g1, g2, g3⟩
        · exact .inl hb
        · refine .inr ⟨g1, g2, fun j B hj hs => ?_⟩
          rcases hm' j B hj with ⟨rfl, rfl⟩ | ⟨n1, n2⟩
          · rw [upd_same] at hs ⊢; exact hne hs
          · rw [upd_other _ _ n1] at hs ⊢; exact g3 j B n2 hs
      · obtain ⟨_, a, hu, ha⟩ := hr
        exact ⟨by rw [h3.2]; omega, a, by rw [upd_same]; exact hu, by rw [upd_same]; exact ha⟩
    · exact h.elim
  | undef => exact plain _ rfl h
  | top => exact h.elim
  | int a b => exact plain _ rfl h
  | bool a => exact plain _ rfl h
  | str a => exact plain _ rfl h
  | nilS => exact plain _ rfl h
  | list a b => exact plain _ rfl h
  | arr a b c => exact h.elim
  | ptr a b => exact h.elim
  | nilP => exact plain _ rfl h
  | eptr a b c d => exact plain _ rfl h
  | rptr a b c d => exact h.elim
  | agg cs =>
    dsimp only [adopt1] at h
    split at h
    · rename_i hd; exact plain _ hd h
    · exact h.elim
  | tuple cs =>
    dsimp only [adopt1] at h
    split at h
    · rename_i hd; exact plain _ hd h
    · exact h.elim
  | fn f a c =>
    dsimp only [adopt1] at h
    split at h
    · rename_i hd; exact plain _ hd h
    · exact h.elim
  | raw u => exact plain _ rfl h

theorem adoptL_holds : ∀ (vs : List SV) (mc m : Mem) (k : List SV → Mem → Mem → Tree α) (L : α → Prop), (adoptL vs mc m k).holds L → ∃ vs' mc' m', (k vs' mc' m').holds L ∧ ∀ w0 R0 ρ0 w m0 ρc mc0 w' ρ (us : List Value), MRel w0 R0 ρ0 w m0 → MRel w (RO w0 R0 ρ0 w m0) ρc w' mc0 → Hand w0 R0 ρ0 w m0 ρc mc0 w' ρ m mc → RepL (RO w (RO w0 R0 ρ0 w m0) ρc w' mc0) ρc mc0.next w' vs us →
    ∃ ρ', Hand w0 R0 ρ0 w m0 ρc mc0 w' ρ' m' mc' ∧ Ext (RR w0 R0 ρ0 w m0 ρc mc0 w') ρ m.next w' (RR w0 R0 ρ0 w m0 ρc mc0 w') ρ' m'.next w' ∧ RepL (RR w0 R0 ρ0 w m0 ρc mc0 w') ρ' m'.next w' vs' us
  | [], mc, m, k, L, h => ⟨[], mc, m, h, fun w0 R0 ρ0 w m0 ρc mc0 w' ρ us hm hc hh hr => ⟨ρ, hh, Ext.refl _ _ _ _, hr⟩⟩
  | v :: vs, mc, m, k, L, h => by
    change (adopt1 v mc m fun v mc m => adoptL vs mc m fun vs mc m => k (v :: vs) mc m).holds L at h
    obtain ⟨v', mc1, m1, h1, h2⟩ := adopt1_holds h
    obtain ⟨vs', mc', m', h3, h4⟩ := adoptL_holds vs mc1 m1 _ L h1
    refine ⟨v' :: vs', mc', m', h3, fun w0 R0 ρ0 w m0 ρc mc0 w' ρ us hm hc hh hr => ?_⟩
    obtain ⟨u, us', rfl, r1, r2⟩ := hr
    obtain ⟨ρ1, g1, g2, g3⟩ := h2 w0 R0 ρ0 w m0 ρc mc0 w' ρ u hm hc hh r1
    obtain ⟨ρ', g4, g5, g6⟩ := h4 w0 R0 ρ0 w m0 ρc mc0 w' ρ1 us' hm hc g1 r2
    exact ⟨ρ', g4, g2.trans g5, u, us', rfl, Rep.mono g5 _ _ g3, g6⟩

theorem adopt_holds {v : SV} {mc m : Mem} {k : SV → Mem → Tree α} {L : α → Prop} (h : (adopt v mc m k).holds L) : ∃ v' m', (k v' m').holds L ∧ ∀ w0 R0 ρ w ρc w' (u : Value), MRel w0 R0 ρ w m → MRel w (RO w0 R0 ρ w m) ρc w' mc → Rep (RO w (RO w0 R0 ρ w m) ρc w' mc) ρc mc.next w' v u → OpOut w0 R0 ρ w m v' m' u w' := by
  have one : ∀ v : SV, (adopt1 v mc m fun v _ m => k v m).holds L → ∃ v' m', (k v' m').holds L ∧ ∀ w0 R0 ρ w ρc w' (u : Value), MRel w0 R0 ρ w m → MRel w (RO w0 R0 ρ w m) ρc w' mc → Rep (RO w (RO w0 R0 ρ w m) ρc w' mc) ρc mc.next w' v u → OpOut w0 R0 ρ w m v' m' u w' := by
    intro v h
    obtain ⟨v', mc', m', h1, h2⟩ := adopt1_holds h
    refine ⟨v', m', h1, fun w0 R0 ρ w ρc w' u hm hc hr => ?_⟩
    obtain ⟨ρ', g1, g2, g3⟩ := h2 w0 R0 ρ w m ρc mc w' ρ u hm hc (Hand.start hm hc) hr
    obtain ⟨g4, g5⟩ := g1.finish hm hc
    exact ⟨ρ', g4, g5, Rep.mono ⟨Nat.le_refl _, fun _ _ => rfl, fun b hb => ⟨g1.ro b hb, rfl⟩⟩ _ _ g3⟩
  have many : ∀ (vs : List SV) (mk : List SV → SV) (mkv : List Value → Value), (∀ (R : Nat → Prop) (ρ : Rho) (n : Nat) (w : World) cs u, Rep R ρ n w (mk cs) u ↔ ∃ us, u = mkv us ∧ RepL R ρ n w cs us) → (adoptL vs mc m fun vs _ m => k (mk vs) m).holds L → ∃ v' m', (k v' m').holds L ∧ ∀ w0 R0 ρ w ρc w' (u : Value), MRel w0 R0 ρ w m → MRel w (RO w0 R0 ρ w m) ρc w' mc → Rep (RO w (RO w0 R0 ρ w m) ρc w' mc) ρc mc.next w' (mk vs) u → OpOut w0 R0 ρ w m v' m' u w' := by
    intro vs mk mkv hmk h
    obtain ⟨vs', mc', m', h1, h2⟩ := adoptL_holds vs mc m _ L h
    refine ⟨_, m', h1, fun w0 R0 ρ w ρc w' u hm hc hr => ?_⟩
    obtain ⟨us, rfl, hr'⟩ := (hmk _ _ _ _ _ _).1 hr
    obtain ⟨ρ', g1, g2, g3⟩ := h2 w0 R0 ρ w m ρc mc w' ρ us hm hc (Hand.start hm hc) hr'
    obtain ⟨g4, g5⟩ := g1.finish hm hc
    exact ⟨ρ', g4, g5, (hmk _ _ _ _ _ _).2 ⟨us, rfl, RepL.mono ⟨Nat.le_refl _, fun _ _ => rfl, fun b hb => ⟨g1.ro b hb, rfl⟩⟩ _ _ g3⟩⟩
  cases v with
  | tuple vs => exact many vs .tuple (fun us => .tuple ⟨us⟩) (fun _ _ _ _ _ _ => Iff.rfl) h
  | agg vs => exact many vs .agg (fun us => .agg ⟨us⟩) (fun _ _ _ _ _ _ => Iff.rfl) h
  | _ => exact one _ h
theorem emptyMem_get (k : Nat) : (⟨0, .e⟩ : Mem).get k = none := rfl

theorem own_mem {w0 : World} {R0 : Nat → Prop} {ρ : Rho} {w : World} {m : Mem} (hm : MRel w0 R0 ρ w m) (ρc : Rho) : MRel w (RO w0 R0 ρ w m) ρc w ⟨0, .e⟩ ∧ ∀ b, RO w0 R0 ρ w m b → RO w (RO w0 R0 ρ w m) ρc w ⟨0, .e⟩ b :=
  ⟨⟨⟨Below.refl _ _, hm.gnd⟩, fun id B h => (by cases h), fun id B h => (by cases h), fun id B h => (by cases h), fun id id' B B' h => (by cases h), fun id B h => (by cases h)⟩, fun b hb => .inl ⟨hb, hm.ro_lt hb⟩⟩

end
end Go.Sx
set_option linter.unusedSimpArgs false
set_option linter.unusedVariables false
namespace Go.Sx

theorem MRel.bare {w0 : World} {R0 : Nat → Prop} {ρ : Rho} {w : World} {m : Mem} (h : MRel w0 R0 ρ w m) : MRel w0 R0 ρ w ⟨0, .e⟩ ∧ ∀ b, RO w0 R0 ρ w m b → RO w0 R0 ρ w ⟨0, .e⟩ b :=
  ⟨⟨h.below, fun id B h => (by cases h), fun id B h => (by cases h), fun id B h => (by cases h), fun id id' B B' h => (by cases h), fun id B h => (by cases h)⟩, fun b hb => by
    rcases hb with hb | ⟨k1, k2, _⟩
    · exact .inl hb
    · exact .inr ⟨k1, k2, fun id B hB => by cases hB⟩⟩

theorem arr_rep {w0 : World} {R0 : Nat → Prop} {ρ : Rho} {w : World} {m : Mem} (h : MRel w0 R0 ρ w m) {id off n : Nat} {cs : List SV} (hg : m.get id = some (.cells cs)) {u : Ty} {l : List u.T} (hl : unflatN u n ((cs.drop off).take (n * u.sz)) = some l) {v : Value}
    (hu : v = .slice (some ⟨(ρ id).1, off, none⟩) n n) : Rep (RO w0 R0 ρ w ⟨0, .e⟩) ρ 0 w (.list u l) v := by
  have hro := h.bare.2
  obtain ⟨arr, e, fr, k1, k2, k3⟩ := h.box id _ hg
  obtain ⟨hd1, hlen⟩ := unflatN_repDL hl ((k3.drop off).take (n * u.sz))
  refine ⟨some ⟨(ρ id).1, off, none⟩, n, by rw [hu, hlen], by omega, fun h0 => ⟨(ρ id).1, off, rfl, .inr ⟨h.lo id _ hg trivial, h.hi id _ hg trivial, fun id B hB => by cases hB⟩, fun i hi => ?_⟩⟩
  obtain ⟨ds, d1, d2, d3⟩ := hd1.elems i hi
  refine ⟨ds, d1, fun j hj => ?_, RepD.mono (fun b hb => ⟨hro b hb, rfl⟩) _ _ _ d3⟩
  rw [cell_of_row w _ _ arr e fr k1, ← d2 j hj]
  have hb : i * u.sz + j < n * u.sz := by
    have : (i + 1) * u.sz ≤ n * u.sz := Nat.mul_le_mul_right _ (by omega)
    rw [Nat.succ_mul] at this; omega
  dsimp only
  rw [List.getElem?_take, if_pos hb, List.getElem?_drop]
  simp

theorem give1_rep {hint : Ty} {w0 : World} {R0 : Nat → Prop} {ρ : Rho} {w : World} {m : Mem} (h : MRel w0 R0 ρ w m) {v : SV} {u : Value} (hv : Rep (RO w0 R0 ρ w m) ρ m.next w v u) (hd : (give1 hint m v).data = true) : Rep (RO w0 R0 ρ w ⟨0, .e⟩) ρ 0 w (give1 hint m v) u := by
  have hro := h.bare.2
  unfold give1 at hd ⊢
  split at hd
  · split at hd
    · exact Rep.data hro _ _ hd hv
    · exact ⟨none, 0, by rw [show u = _ from hv]; rfl, Nat.le_refl _, fun h => absurd h (Nat.lt_irrefl _)⟩
  · rename_i id
    split at hd
    · rename_i t l hg
      obtain ⟨_, a, hu, ha⟩ := hv
      obtain ⟨b1, b2, hp⟩ := h.box id _ hg
      refine ⟨a, (ρ id).2.2, by rw [hu, b1], b2, fun h0 => ?_⟩
      have h0 : 0 < (ρ id).2.2 := Nat.lt_of_lt_of_le h0 b2
      obtain ⟨arr, e, fr, k1, k2, k3, k4⟩ := hp h0
      refine ⟨(ρ id).1, 0, ha h0, .inr ⟨h.lo id _ hg h0, h.hi id _ hg h0, fun id B hB => by cases hB⟩, fun i hi => ?_⟩
      obtain ⟨cs, c1, c2, c3⟩ := k4 i hi
      refine ⟨cs, c1, fun j hj => ?_, RepD.mono (fun b hb => ⟨hro b hb, rfl⟩) _ _ _ c3⟩
      rw [cell_of_row w _ _ arr e fr k1, Nat.zero_add]
      exact c2 j hj
    · cases hd
  · rename_i id off n
    split at hd
    · rename_i cs hg
      split at hd
      · rename_i l hl
        exact arr_rep h hg hl hv.2
      · cases hd
    · cases hd
  · exact Rep.data hro _ _ hd hv

theorem giveL_rep {hint : Ty} {w0 : World} {R0 : Nat → Prop} {ρ : Rho} {w : World} {m : Mem} (h : MRel w0 R0 ρ w m) : ∀ {cs : List SV} {us : List Value}, RepL (RO w0 R0 ρ w m) ρ m.next w cs us → dataL (giveL hint m cs) = true → RepL (RO w0 R0 ρ w ⟨0, .e⟩) ρ 0 w (giveL hint m cs) us
  | [], _, hr, _ => hr
  | x :: xs, us, hr, hd => by
    obtain ⟨u, us', rfl, h2, h3⟩ := hr
    unfold giveL at hd ⊢
    rw [dataL_cons] at hd
    cases h4 : (give1 hint m x).data with
    | false => rw [h4] at hd; cases hd
    | true => rw [h4] at hd; exact ⟨u, us', rfl, give1_rep h h2 h4, giveL_rep h h3 hd⟩

theorem giveA_rep {hint : Ty} {w0 : World} {R0 : Nat → Prop} {ρ : Rho} {w : World} {m : Mem} (h : MRel w0 R0 ρ w m) {v : SV} {u : Value} (hv : Rep (RO w0 R0 ρ w m) ρ m.next w v u) (hd : (giveA hint m v).data = true) : Rep (RO w0 R0 ρ w ⟨0, .e⟩) ρ 0 w (giveA hint m v) u := by
  unfold giveA at hd ⊢
  split at hd
  · obtain ⟨vs, h1, h2⟩ := hv
    exact ⟨vs, h1, giveL_rep h h2 (by rw [← data_agg]; exact hd)⟩
  · exact give1_rep h hv hd

theorem giveM_rep {hint : Ty} {w0 : World} {R0 : Nat → Prop} {ρ : Rho} {w : World} {m : Mem} (h : MRel w0 R0 ρ w m) : ∀ {cs : List SV} {us : List Value}, RepL (RO w0 R0 ρ w m) ρ m.next w cs us → dataL (giveM hint m cs) = true → RepL (RO w0 R0 ρ w ⟨0, .e⟩) ρ 0 w (giveM hint m cs) us
  | [], _, hr, _ => hr
  | x :: xs, us, hr, hd => by
    obtain ⟨u, us', rfl, h2, h3⟩ := hr
    unfold giveM at hd ⊢
    rw [dataL_cons] at hd
    cases h4 : (giveA hint m x).data with
    | false => rw [h4] at hd; cases hd
    | true => rw [h4] at hd; exact ⟨u, us', rfl, giveA_rep h h2 h4, giveM_rep h h3 hd⟩

theorem give_rep {hint : Ty} {w0 : World} {R0 : Nat → Prop} {ρ : Rho} {w : World} {m : Mem} (h : MRel w0 R0 ρ w m) {v : SV} {u : Value} (hv : Rep (RO w0 R0 ρ w m) ρ m.next w v u) (hd : (give hint m v).data = true) : Rep (RO w0 R0 ρ w ⟨0, .e⟩) ρ 0 w (give hint m v) u := by
  unfold give at hd ⊢
  split at hd
  · obtain ⟨vs, h1, h2⟩ := hv
    exact ⟨vs, h1, giveM_rep h h2 (by rw [← data_tuple]; exact hd)⟩
  · exact giveA_rep h hv hd


section
variable {P : Program} {E : Env} {α : Type}

theorem dataL_mem {l : List SV} (h : dataL l = true) : ∀ x ∈ l, x.data = true := by
  induction l with
  | nil => intro x hx; cases hx
  | cons y ys ih =>
    rw [dataL_cons] at h
    intro x hx
    cases hy : y.data with
    | false => rw [hy] at h; cases h
    | true =>
      rw [hy] at h
      rcases List.mem_cons.1 hx with rfl | hx
      · exact hy
      · exact ih h x hx

/-- What is done in a memory of its own, with data, and hands back data, can be done in any. -/
theorem semOp_free {o : Oper} {ev : Operand → SV} {hint : Ty} {v : SV} {mc : Mem} (hd : dataL (o.op.operands.toList.map ev) = true) (hv : (give hint mc v).data = true) (h : SemOp P ⟨0, .e⟩ v mc o ev) (m : Mem) : SemOp P m (give hint mc v) m o ev := by
  intro w0 R0 ρ w eb hm hev
  obtain ⟨o1, o2⟩ := own_mem hm ρ
  have h1 := h w (RO w0 R0 ρ w m) ρ w eb o1 fun x hx => Rep.data o2 _ _ (dataL_mem hd _ (List.mem_map.2 ⟨x, by simpa using hx, rfl⟩)) (hev x hx)
  refine OpPost.mono (fun u w' ⟨ρ', g1, g2, g3⟩ => ?_) h1
  have hst := Hand.start hm g1.bare.1
  obtain ⟨k1, k2⟩ := hst.finish hm g1.bare.1
  exact ⟨ρ, k1, k2, Rep.data (fun b hb => hst.ro b (.inr hb)) _ u hv (give_rep g1 g3 hv)⟩

/-- One operation of such a region. -/
def FreeOK (P : Program) (E : Env) (all : List Oper) (o : Oper) (fr : Fr) (m : Mem) (v : SV) (m' : Mem) : Prop :=
  isW E o.op = true ∨ (m' = m ∧ ∀ m2, StepOK P all o fr m2 v m2)

theorem oneOpF_holds (hE : EOK P E) {call : CallK α} (hcall : CallOK P false call) {all : List Oper} {o : Oper} {ih : OpsK α} {p : Plan} {fr : Fr} {m : Mem} {L : α → Prop} (h : (oneOpF E call o ih p fr m).holds L) :
    ∃ p' v fr1 m1, (ih p' fr1 m1).holds L ∧ StepOK P all o fr m v m1 ∧ FSet fr o.dst v fr1 ∧ FreeOK P E all o fr m v m1 := by
  unfold oneOpF at h
  split at h
  · rename_i hg
    have hgv : gval all fr.get o = some true := by unfold gval; rw [hg]
    split at h
    · rename_i hw
      obtain ⟨v, p', m1, h1, _, h3, h4⟩ := execOp_sound hE hcall h
      obtain ⟨fr1, h5, h6⟩ := putK_holds h1
      exact ⟨p', v, fr1, m1, h6, .inl ⟨hgv, h3⟩, h5, .inl hw⟩
    · split at h
      · rename_i hp
        obtain ⟨v, p', m1, h1, _, h3, h4⟩ := execOp_sound hE hcall h
        obtain ⟨fr1, h5, h6⟩ := putK_holds h1
        exact ⟨p', v, fr1, m, h6, .inl ⟨hgv, h4.pure hp m⟩, h5, .inr ⟨rfl, fun m2 => .inl ⟨hgv, h4.pure hp m2⟩⟩⟩
      · split at h
        · rename_i hd
          obtain ⟨v, p', mc, h1, _, h3, h4⟩ := execOp_sound hE hcall h
          split at h1
          · rename_i hv
            rw [frc_eq] at h1
            obtain ⟨fr1, h5, h6⟩ := putK_holds h1
            have key := semOp_free hd hv h3
            exact ⟨p', _, fr1, m, h6, .inl ⟨hgv, key m⟩, h5, .inr ⟨rfl, fun m2 => .inl ⟨hgv, key m2⟩⟩⟩
          · exact h1.elim
        · exact h.elim
  · exact h.elim

inductive ChainF (P : Program) (E : Env) (all : List Oper) : List Oper → Fr → Mem → Fr → Mem → Prop where
  | nil (fr : Fr) (m : Mem) : ChainF P E all [] fr m fr m
  | cons {o : Oper} {rest : List Oper} {fr fr1 fr' : Fr} {m m1 m' : Mem} {v : SV} (h : StepOK P all o fr m v m1) (hx : FreeOK P E all o fr m v m1) (hf : FSet fr o.dst v fr1) (k : ChainF P E all rest fr1 m1 fr' m') : ChainF P E all (o :: rest) fr m fr' m'

theorem execOpsF_chain (hE : EOK P E) {call : CallK α} (hcall : CallOK P false call) {all : List Oper} {k : OpsK α} {L : α → Prop} : ∀ (ops : List Oper) (p : Plan) (fr : Fr) (m : Mem), (execOpsF E call ops k p fr m).holds L →
    ∃ p' fr' m', (k p' fr' m').holds L ∧ ChainF P E all ops fr m fr' m'
  | [], p, fr, m, h => ⟨p, fr, m, h, .nil fr m⟩
  | o :: rest, p, fr, m, h => by
    change (oneOpF E call o (execOpsF E call rest k) p fr m).holds L at h
    obtain ⟨p1, v, fr1, m1, h1, h2, h3, h4⟩ := oneOpF_holds (all := all) hE hcall h
    obtain ⟨p', fr', m', h5, h6⟩ := execOpsF_chain hE hcall rest p1 fr1 m1 h1
    exact ⟨p', fr', m', h5, .cons h2 h4 h3 h6⟩

structure WalkF (P : Program) (E : Env) (all : List Oper) (m m' : Mem) (fr fr' : Fr) (frs : Nat → Fr) (vals : Nat → SV) (ms : Nat → Mem) : Prop where
  first : frs 0 = fr
  last : frs all.length = fr'
  mfirst : ms 0 = m
  mlast : ms all.length = m'
  step : ∀ i o, all[i]? = some o → StepOK P all o (frs i) (ms i) (vals i) (ms (i + 1))
  more : ∀ i o, all[i]? = some o → FreeOK P E all o (frs i) (ms i) (vals i) (ms (i + 1))
  next : ∀ i o, all[i]? = some o → FSet (frs i) o.dst (vals i) (frs (i + 1))

theorem ChainF.index {all : List Oper} : ∀ {ops : List Oper} {fr fr' : Fr} {m m' : Mem}, ChainF P E all ops fr m fr' m' → ∃ (frs : Nat → Fr) (vals : Nat → SV) (ms : Nat → Mem), frs 0 = fr ∧ frs ops.length = fr' ∧ ms 0 = m ∧ ms ops.length = m' ∧
    (∀ i o, ops[i]? = some o → StepOK P all o (frs i) (ms i) (vals i) (ms (i + 1))) ∧ (∀ i o, ops[i]? = some o → FreeOK P E all o (frs i) (ms i) (vals i) (ms (i + 1))) ∧ (∀ i o, ops[i]? = some o → FSet (frs i) o.dst (vals i) (frs (i + 1))) := by
  intro ops fr fr' m m' h
  induction h with
  | nil fr m => exact ⟨fun _ => fr, fun _ => .undef, fun _ => m, rfl, rfl, rfl, rfl, fun i o h => by simp at h, fun i o h => by simp at h, fun i o h => by simp at h⟩
  | @cons o rest fr fr1 fr' m m1 m' v hst hx hf k ih =>
    obtain ⟨frs, vals, ms, h1, h2, h1m, h2m, h3, hx3, h4⟩ := ih
    refine ⟨fun i => Nat.casesOn i fr frs, fun i => Nat.casesOn i v vals, fun i => Nat.casesOn i m ms, rfl, h2, rfl, h2m, fun i o' hi => ?_, fun i o' hi => ?_, fun i o' hi => ?_⟩
    · cases i with
      | zero => simp at hi; subst hi; dsimp only; rw [h1m]; exact hst
      | succ i => exact h3 i o' (by simpa using hi)
    · cases i with
      | zero => simp at hi; subst hi; dsimp only; rw [h1m]; exact hx
      | succ i => exact hx3 i o' (by simpa using hi)
    · cases i with
      | zero => simp at hi; subst hi; dsimp only; rw [h1]; exact hf
      | succ i => exact h4 i o' (by simpa using hi)
theorem ChainF.toWalk {all : List Oper} {m m' : Mem} {fr fr' : Fr} (h : ChainF P E all all fr m fr' m') : ∃ frs vals ms, WalkF P E all m m' fr fr' frs vals ms :=
  let ⟨frs, vals, ms, h1, h2, h3, h4, h5, h6, h7⟩ := h.index
  ⟨frs, vals, ms, h1, h2, h3, h4, h5, h6, h7⟩

/-- The memory once the operations of a set are done. -/
noncomputable def curF (E : Env) (all : List Oper) (ms : Nat → Mem) (S : Nat → Bool) : Nat → Mem
  | 0 => ms 0
  | n + 1 => if S n = true ∧ (all[n]?).any (fun o => isW E o.op) = true then ms (n + 1) else curF E all ms S n
theorem curF_congr {all : List Oper} {ms : Nat → Mem} {S S' : Nat → Bool} : ∀ (n : Nat), (∀ k, k < n → (all[k]?).any (fun o => isW E o.op) = true → S k = S' k) → curF E all ms S n = curF E all ms S' n
  | 0, _ => rfl
  | n + 1, h => by
    simp only [curF]
    rw [curF_congr n fun k hk => h k (by omega)]
    by_cases hw : (all[n]?).any (fun o => isW E o.op) = true
    · rw [h n (by omega) hw]
    · rw [if_neg (fun c => hw c.2), if_neg (fun c => hw c.2)]
theorem curF_past {all : List Oper} {ms : Nat → Mem} {S : Nat → Bool} {i : Nat} : ∀ (n : Nat), i ≤ n → (∀ k, i ≤ k → k < n → (all[k]?).any (fun o => isW E o.op) = true → S k = false) → curF E all ms S n = curF E all ms S i
  | 0, hi, _ => by rw [Nat.le_zero.1 hi]
  | n + 1, hi, h => by
    rcases Nat.lt_or_ge n i with h1 | h1
    · rw [show i = n + 1 by omega]
    · simp only [curF]
      rw [if_neg (fun c => by have := h n h1 (by omega) c.2; rw [c.1] at this; cases this), curF_past n h1 fun k h1 h2 => h k h1 (by omega)]
theorem curF_all {all : List Oper} {ms : Nat → Mem} (hk : ∀ (i : Nat) (o : Oper), all[i]? = some o → isW E o.op = false → ms (i + 1) = ms i) {S : Nat → Bool} : ∀ (n : Nat), n ≤ all.length → (∀ k, k < n → (all[k]?).any (fun o => isW E o.op) = true → S k = true) → curF E all ms S n = ms n
  | 0, _, _ => rfl
  | n + 1, hn, h => by
    simp only [curF]
    have ho : all[n]? = some all[n] := List.getElem?_eq_getElem (by omega)
    by_cases hw : (all[n]?).any (fun o => isW E o.op) = true
    · rw [if_pos ⟨h n (by omega) hw, hw⟩]
    · rw [if_neg (fun c => hw c.2), curF_all hk n (by omega) fun k h1 => h k (by omega)]
      refine (hk n _ ho ?_).symm
      rw [ho] at hw; simpa using hw

theorem chain_pairs {all : List Oper} (h : chainB E all = true) : ∀ (j : Nat) (oj : Oper), all[j]? = some oj → isW E oj.op = true → ∀ (i : Nat) (oi : Oper), i < j → all[i]? = some oi → isW E oi.op = true → boundTo all 3 oj i = true := by
  intro j oj hj hs i oi hij hi hwi
  simp only [chainB, List.all_eq_true] at h
  have h3 := h (oj, j) (List.mem_zipIdx_iff_getElem?.2 hj)
  simp only [hs, Bool.not_true, Bool.false_or, List.all_eq_true] at h3
  have h4 := h3 (oi, i) (List.mem_zipIdx_iff_getElem?.2 hi)
  have hb : Nat.blt i j = true := by rw [Nat.blt_eq]; exact hij
  simpa only [hb, hwi, Bool.not_true, Bool.false_or] using h4

theorem free_keep {all : List Oper} {m m' : Mem} {fr fr' : Fr} {frs : Nat → Fr} {vals : Nat → SV} {ms : Nat → Mem} (hw : WalkF P E all m m' fr fr' frs vals ms) (k : Nat) (o : Oper) (ho : all[k]? = some o) (hwr : isW E o.op = false) : ms (k + 1) = ms k := by
  rcases hw.more k o ho with h | h
  · rw [hwr] at h; cases h
  · exact h.1

theorem free_step {all : List Oper} {m m' : Mem} {fr fr' : Fr} {frs : Nat → Fr} {vals : Nat → SV} {ms : Nat → Mem} (hw : WalkF P E all m m' fr fr' frs vals ms) (hch : chainB E all = true)
    (S : Nat → Bool) (i : Nat) (o : Oper) (hoi : all[i]? = some o) (hSi : S i = false) (hcl : ∀ (j : Nat) (oj : Oper), all[j]? = some oj → S j = true → ∀ e ∈ oj.after, Region.binds .any e = true → S e.on = true) (hready : ∀ e ∈ o.after, Region.binds .any e = true → S e.on = true) :
    StepOK P all o (frs i) (curF E all ms S all.length) (vals i) (curF E all ms (fun k => if k = i then true else S k) all.length) := by
  have hil : i < all.length := (List.getElem?_eq_some_iff.1 hoi).1
  have hkeep : ∀ (k : Nat) (o : Oper), all[k]? = some o → isW E o.op = false → ms (k + 1) = ms k := fun k o ho hwr => free_keep hw k o ho hwr
  have hisw : ∀ {k : Nat} {o : Oper}, all[k]? = some o → ((all[k]?).any (fun o => isW E o.op) = true ↔ isW E o.op = true) := fun {k o} ho => by rw [ho]; simp
  by_cases hwr : isW E o.op = true
  · have hahead : ∀ k, k < i → (all[k]?).any (fun o => isW E o.op) = true → S k = true := by
      intro k hk hkw
      have ho : all[k]? = some all[k] := List.getElem?_eq_getElem (by omega)
      exact bound_in hcl 3 o k hready (chain_pairs hch i o hoi hwr k _ hk ho ((hisw ho).1 hkw))
    have hbehind : ∀ k, i < k → k < all.length → (all[k]?).any (fun o => isW E o.op) = true → S k = false := by
      intro k hk hkl hkw
      have ho : all[k]? = some all[k] := List.getElem?_eq_getElem hkl
      rcases Bool.eq_false_or_eq_true (S k) with h | h
      · have := bound_in hcl 3 _ i (fun e he hb => hcl k _ ho h e he hb) (chain_pairs hch k _ ho ((hisw ho).1 hkw) i o hk hoi hwr)
        rw [hSi] at this; cases this
      · exact h
    have e1 : curF E all ms S all.length = ms i := by
      rw [curF_past (i := i) all.length (by omega) (fun k h1 h2 h3 => ?_), curF_all hkeep i (by omega) hahead]
      by_cases hki : k = i
      · rw [hki]; exact hSi
      · exact hbehind k (by omega) h2 h3
    have e2 : curF E all ms (fun k => if k = i then true else S k) all.length = ms (i + 1) := by
      rw [curF_past (i := i + 1) all.length (by omega) (fun k h1 h2 h3 => ?_), curF_all hkeep (i + 1) (by omega) (fun k h1 h2 => ?_)]
      · by_cases hki : k = i
        · rw [if_pos hki]
        · rw [if_neg hki]; exact hahead k (by omega) h2
      · rw [if_neg (by omega)]; exact hbehind k (by omega) h2 h3
    rw [e1, e2]
    exact hw.step i o hoi
  · have e2 : curF E all ms (fun k => if k = i then true else S k) all.length = curF E all ms S all.length := by
      refine curF_congr _ fun k hk hkw => ?_
      by_cases hki : k = i
      · subst hki; exact absurd ((hisw hoi).1 hkw) hwr
      · simp [hki]
    rw [e2]
    rcases hw.more i o hoi with h | h
    · exact absurd h hwr
    · exact h.2 _
end
end Go.Sx
set_option linter.unusedSimpArgs false
set_option linter.unusedVariables false
namespace Go.Sx
open Go.RowKit

/-! ### Memories that agree -/

theorem RO.congr {w0 : World} {R0 : Nat → Prop} {ρ : Rho} {w : World} {m m2 : Mem} (hg : ∀ id, m2.get id = m.get id) : RO w0 R0 ρ w m2 = RO w0 R0 ρ w m := by
  funext b; unfold RO; simp only [hg]
theorem MRel.congr {w0 : World} {R0 : Nat → Prop} {ρ : Rho} {w : World} {m m2 : Mem} (hg : ∀ id, m2.get id = m.get id) (hn : m2.next = m.next) (h : MRel w0 R0 ρ w m) : MRel w0 R0 ρ w m2 := by
  refine ⟨h.below, fun id B hB => ?_, fun id B hB => h.lo id B (by rw [← hg]; exact hB), fun id B hB => h.hi id B (by rw [← hg]; exact hB), fun id id' B B' hB hB' => h.inj id id' B B' (by rw [← hg]; exact hB) (by rw [← hg]; exact hB'), fun id B hB => ?_⟩
  · rw [hn]; exact h.lt id B (by rw [← hg]; exact hB)
  · rw [RO.congr hg, hn]; exact h.box id B (by rw [← hg]; exact hB)
theorem OpOut.congr {w0 : World} {R0 : Nat → Prop} {ρ : Rho} {w : World} {m m2 m' m2' : Mem} {v : SV} {u : Value} {w' : World} (hg : ∀ id, m2.get id = m.get id) (hn : m2.next = m.next) (hg' : ∀ id, m2'.get id = m'.get id) (hn' : m2'.next = m'.next) (h : OpOut w0 R0 ρ w m v m' u w') : OpOut w0 R0 ρ w m2 v m2' u w' := by
  obtain ⟨ρ', g1, g2, g3⟩ := h
  refine ⟨ρ', g1.congr hg' hn', ?_, ?_⟩
  · unfold MExt
    rw [RO.congr hg, RO.congr hg', hn, hn']; exact g2
  · rw [RO.congr hg', hn']; exact g3
theorem SemOp.congr {P : Program} {m m2 m' m2' : Mem} {v : SV} {o : Oper} {ev : Operand → SV} (hg : ∀ id, m2.get id = m.get id) (hn : m2.next = m.next) (hg' : ∀ id, m2'.get id = m'.get id) (hn' : m2'.next = m'.next) (h : SemOp P m v m' o ev) : SemOp P m2 v m2' o ev := by
  intro w0 R0 ρ w eb hm hev
  have h1 := h w0 R0 ρ w eb (hm.congr (fun id => (hg id).symm) hn.symm) (fun x hx => by rw [← RO.congr hg, ← hn]; exact hev x hx)
  exact OpPost.mono (fun u w' hu => hu.congr hg hn hg' hn') h1

theorem setT_any {β γ α : Type} {L : α → Prop} : ∀ (d : Nat) (t : Tb β) (i : Nat) (v : Option β) (k : Tb β → Tree α), (setT d t i v k).holds L → ∀ (t2 : Tb γ) (v2 : Option γ), ∃ t2', ∀ (δ : Type) (k2 : Tb γ → Tree δ), setT d t2 i v2 k2 = k2 t2'
  | 0, _, _, _, _, h => h.elim
  | d + 1, t, 0, v, k, h => fun t2 v2 => by
    cases t2 with
    | e => exact ⟨_, fun _ _ => rfl⟩
    | n l u r => exact ⟨_, fun _ _ => rfl⟩
  | d + 1, t, j + 1, v, k, h => fun t2 v2 => by
    have down : ∃ (t' : Tb β) (α' : Type) (L' : α' → Prop) (k' : Tb β → Tree α'), (setT d t' (j / 2) v k').holds L' := by
      cases t with
      | e =>
        change (Tb.pick j (fun i => setT d .e i v fun l => k (.n l none .e)) (fun i => setT d .e i v fun r => k (.n .e none r))).holds L at h
        by_cases hj : j % 2 = 0
        · rw [Tb.pick_even hj] at h; exact ⟨_, _, _, _, h⟩
        · rw [Tb.pick_odd hj] at h; exact ⟨_, _, _, _, h⟩
      | n l u r =>
        change (Tb.pick j (fun i => setT d l i v fun l => k (.n l u r)) (fun i => setT d r i v fun r => k (.n l u r))).holds L at h
        by_cases hj : j % 2 = 0
        · rw [Tb.pick_even hj] at h; exact ⟨_, _, _, _, h⟩
        · rw [Tb.pick_odd hj] at h; exact ⟨_, _, _, _, h⟩
    obtain ⟨t', α', L', k', h'⟩ := down
    cases t2 with
    | e =>
      obtain ⟨t3, h3⟩ := setT_any d t' (j / 2) v k' h' (.e : Tb γ) v2
      by_cases hj : j % 2 = 0
      · exact ⟨_, fun δ k2 => by
          change Tb.pick j (fun i => setT d .e i v2 fun l => k2 (.n l none .e)) (fun i => setT d .e i v2 fun r => k2 (.n .e none r)) = _
          rw [Tb.pick_even hj, h3]⟩
      · exact ⟨_, fun δ k2 => by
          change Tb.pick j (fun i => setT d .e i v2 fun l => k2 (.n l none .e)) (fun i => setT d .e i v2 fun r => k2 (.n .e none r)) = _
          rw [Tb.pick_odd hj, h3]⟩
    | n l u r =>
      by_cases hj : j % 2 = 0
      · obtain ⟨t3, h3⟩ := setT_any d t' (j / 2) v k' h' l v2
        exact ⟨_, fun δ k2 => by
          change Tb.pick j (fun i => setT d l i v2 fun l => k2 (.n l u r)) (fun i => setT d r i v2 fun r => k2 (.n l u r)) = _
          rw [Tb.pick_even hj, h3]⟩
      · obtain ⟨t3, h3⟩ := setT_any d t' (j / 2) v k' h' r v2
        exact ⟨_, fun δ k2 => by
          change Tb.pick j (fun i => setT d l i v2 fun l => k2 (.n l u r)) (fun i => setT d r i v2 fun r => k2 (.n l u r)) = _
          rw [Tb.pick_odd hj, h3]⟩

theorem setT_run {β : Type} {d : Nat} {t t' : Tb β} {i : Nat} {v : Option β} (h : ∀ (δ : Type) (k2 : Tb β → Tree δ), setT d t i v k2 = k2 t') : TbSet t i v t' := by
  obtain ⟨t2, g1, g2⟩ := holds_setT (L := fun x => x = t') d t i v .leaf (by rw [h]; exact rfl)
  obtain rfl : t2 = t' := g2
  exact g1

theorem Mem.set_any {α : Type} {L : α → Prop} {m : Mem} {id : Nat} {b : Option Box} {k : Mem → Tree α} (h : (m.set id b k).holds L) (m2 : Mem) (b2 : Option Box) : ∃ m2', MSet m2 id b2 m2' ∧ ∀ (δ : Type) (k2 : Mem → Tree δ), m2.set id b2 k2 = k2 m2' := by
  obtain ⟨t', ht⟩ := setT_any 40 m.tb id b (fun tb => k ⟨m.next, tb⟩) h m2.tb b2
  exact ⟨⟨m2.next, t'⟩, ⟨setT_run ht, rfl⟩, fun δ k2 => ht δ _⟩
theorem Mem.push_any {α : Type} {L : α → Prop} {m : Mem} {B : Box} {k : Mem → Nat → Tree α} (h : (m.push B k).holds L) (m2 : Mem) (B2 : Box) (hn : m2.next = m.next) : ∃ m2', MPush m2 B2 m2' ∧ ∀ (δ : Type) (k2 : Mem → Nat → Tree δ), m2.push B2 k2 = k2 m2' m2.next := by
  unfold Mem.push at h
  rw [frcN_eq] at h
  obtain ⟨t', ht⟩ := setT_any 40 m.tb m.next (some B) (fun tb => k ⟨m.next + 1, tb⟩ m.next) h m2.tb (some B2)
  rw [← hn] at ht
  refine ⟨⟨m2.next + 1, t'⟩, ⟨setT_run ht, rfl⟩, fun δ k2 => ?_⟩
  unfold Mem.push
  rw [frcN_eq]
  exact ht δ _

theorem overK_flat {α : Type} {L : α → Prop} : ∀ (cs : List SV) (off : Nat) (vs : List SV) (k : List SV → Tree α), (overK cs off vs k).holds L → ∃ r, (k r).holds L ∧ ∀ (δ : Type) (k2 : List SV → Tree δ), overK cs off vs k2 = k2 r
  | [], off, [], k, h => ⟨[], h, fun _ _ => rfl⟩
  | [], off, _ :: _, k, h => h.elim
  | c :: cs, off, [], k, h => ⟨_, h, fun _ _ => rfl⟩
  | c :: cs, 0, v :: vs, k, h => by
    change (frc v fun v => overK cs 0 vs fun ys => k (v :: ys)).holds L at h
    rw [frc_eq] at h
    obtain ⟨r, h1, h2⟩ := overK_flat cs 0 vs _ h
    refine ⟨_, h1, fun δ k2 => ?_⟩
    change (frc v fun v => overK cs 0 vs fun ys => k2 (v :: ys)) = _
    rw [frc_eq, h2]
  | c :: cs, off + 1, v :: vs, k, h => by
    change (overK cs off (v :: vs) fun ys => k (c :: ys)).holds L at h
    obtain ⟨r, h1, h2⟩ := overK_flat cs off (v :: vs) _ h
    exact ⟨_, h1, fun δ k2 => by
      change (overK cs off (v :: vs) fun ys => k2 (c :: ys)) = _
      rw [h2]⟩

theorem only_holds {α : Type} {L : α → Prop} {m : Mem} : ∀ (ids : List Nat) (mF : Mem) (k : Mem → Tree α), (m.only ids mF k).holds L → ∃ mF', (k mF').holds L ∧ mF'.next = mF.next ∧ ∀ id, mF'.get id = if id ∈ ids ∧ (m.get id).isSome = true then m.get id else mF.get id
  | [], mF, k, h => ⟨mF, h, rfl, fun id => by simp⟩
  | i :: ids, mF, k, h => by
    change ((match m.get i with
      | some B => mF.set i (some B) fun mF => m.only ids mF k
      | none => m.only ids mF k : Tree α)).holds L at h
    cases hi : m.get i with
    | none =>
      rw [hi] at h
      obtain ⟨mF', h1, h2, h3⟩ := only_holds ids mF k h
      refine ⟨mF', h1, h2, fun id => ?_⟩
      rw [h3 id]
      by_cases e : id = i
      · subst e; rw [hi]; simp
      · simp [e]
    | some B =>
      rw [hi] at h
      obtain ⟨m1, g1, g2⟩ := Mem.set_holds h
      obtain ⟨mF', h1, h2, h3⟩ := only_holds ids m1 k g2
      refine ⟨mF', h1, h2.trans g1.2, fun id => ?_⟩
      rw [h3 id, g1.1 id]
      by_cases e : id = i
      · subst e; rw [hi]; simp
      · simp [e]
theorem only_get {α : Type} {L : α → Prop} {m : Mem} {ids : List Nat} {k : Mem → Tree α} (h : (m.only ids ⟨m.next, .e⟩ k).holds L) : ∃ mF, (k mF).holds L ∧ mF.next = m.next ∧ (∀ id ∈ ids, mF.get id = m.get id) ∧ ∀ id, id ∉ ids → mF.get id = none := by
  obtain ⟨mF, h1, h2, h3⟩ := only_holds ids _ k h
  refine ⟨mF, h1, h2, fun id hid => ?_, fun id hid => ?_⟩
  · rw [h3 id]
    cases hx : m.get id with
    | none => simp; exact emptyMem_get' _ id
    | some B => simp [hid]
  · rw [h3 id, if_neg (fun c => hid c.1)]; exact emptyMem_get' _ id
where emptyMem_get' (n k : Nat) : (⟨n, .e⟩ : Mem).get k = none := rfl
theorem patch_holds {α : Type} {L : α → Prop} {mF : Mem} : ∀ (ids : List Nat) (m : Mem) (k : Mem → Tree α), (Mem.patch mF ids m k).holds L → ∃ m', (k m').holds L ∧ m'.next = m.next ∧ ∀ id, m'.get id = if id ∈ ids then mF.get id else m.get id
  | [], m, k, h => ⟨m, h, rfl, fun id => by simp⟩
  | i :: ids, m, k, h => by
    change (m.set i (mF.get i) fun m => Mem.patch mF ids m k).holds L at h
    obtain ⟨m1, g1, g2⟩ := Mem.set_holds h
    obtain ⟨m', h1, h2, h3⟩ := patch_holds ids m1 k g2
    refine ⟨m', h1, h2.trans g1.2, fun id => ?_⟩
    rw [h3 id, g1.1 id]
    by_cases e : id = i
    · subst e; simp
    · simp [e]

/-! ### Operations there -/

section
variable {P : Program} {E : Env} {α : Type} {L : α → Prop}

theorem noCall_ok {Q : Bool} : CallOK P Q (fun _ _ _ _ _ => .fail 0 : CallK α) := fun f args p m κ L h => h.elim

theorem semOp_of_run (hE : EOK P E) {call : CallK (SV × Mem)} (hcall : CallOK P false call) {ev : Operand → SV} {o : Oper} {p : Plan} {m m' : Mem} {v : SV}
    (h : (execOp E call ev o.op p m fun v _ m => .leaf (v, m)).holds fun y => y.1 = v ∧ (∀ id, y.2.get id = m'.get id) ∧ y.2.next = m'.next) : SemOp P m v m' o ev := by
  obtain ⟨v1, p1, m1, h1, _, h2, _⟩ := execOp_sound hE hcall h
  obtain ⟨rfl, h3, h4⟩ := h1
  exact h2.congr (fun _ => rfl) rfl (fun id => (h3 id).symm) h4.symm

/-- A store. -/
theorem opStore_at {t : TypeId} {a v : SV} {p : Plan} {m : Mem} {κ : Kont α} (h : (opStore E t a v p m κ).holds L) :
    ∃ m', (κ .undef p m').holds L ∧ ∀ (m2 m2' : Mem) (p2 : Plan), (∀ id ∈ idsV a [], m2.get id = m.get id) → (∀ id, m2'.get id = if id ∈ idsV a [] then m'.get id else m2.get id) → m2'.next = m2.next →
      (opStore E t a v p2 m2 fun v _ m => .leaf (v, m)).holds fun y => y.1 = .undef ∧ (∀ id, y.2.get id = m2'.get id) ∧ y.2.next = m2'.next := by
  unfold opStore at h
  cases hr : E.row t with
  | none => rw [hr] at h; exact h.elim
  | some r =>
    rw [hr] at h
    dsimp only at h
    split at h
    · exact h.elim
    · rename_i hs
      cases a <;> try exact h.elim
      case ptr id off =>
        dsimp only at h
        cases hg : m.get id with
        | none => rw [hg] at h; exact h.elim
        | some B =>
          rw [hg] at h
          cases B <;> try exact h.elim
          case cells cs =>
            dsimp only at h
            obtain ⟨cs', h1, h2⟩ := overK_flat _ _ _ _ h
            obtain ⟨m', h3, h4⟩ := Mem.set_holds h1
            refine ⟨m', h4, fun m2 m2' p2 ha hp hn => ?_⟩
            have ha := ha id (by simp [idsV, addId, idx])
            obtain ⟨m3, h5, h6⟩ := Mem.set_any h1 m2 (some (.cells cs'))
            unfold opStore
            rw [hr]
            dsimp only
            rw [hs]
            dsimp only
            rw [ha, hg]
            dsimp only
            rw [h2, h6]
            refine ⟨rfl, fun id' => ?_, h5.2.trans hn.symm⟩
            rw [h5.1 id', hp id', h3.1 id']
            by_cases e : id' = id
            · subst e; simp [idsV, addId, idx]
            · simp [idsV, addId, idx, e]
          case obj u cs =>
            dsimp only at h
            obtain ⟨cs', h1, h2⟩ := overK_flat _ _ _ _ h
            obtain ⟨m', h3, h4⟩ := Mem.set_holds h1
            refine ⟨m', h4, fun m2 m2' p2 ha hp hn => ?_⟩
            have ha := ha id (by simp [idsV, addId, idx])
            obtain ⟨m3, h5, h6⟩ := Mem.set_any h1 m2 (some (.obj u cs'))
            unfold opStore
            rw [hr]
            dsimp only
            rw [hs]
            dsimp only
            rw [ha, hg]
            dsimp only
            rw [h2, h6]
            refine ⟨rfl, fun id' => ?_, h5.2.trans hn.symm⟩
            rw [h5.1 id', hp id', h3.1 id']
            by_cases e : id' = id
            · subst e; simp [idsV, addId, idx]
            · simp [idsV, addId, idx, e]
      case rptr id sz i off =>
        dsimp only at h
        cases hg : m.get id with
        | none => rw [hg] at h; exact h.elim
        | some B =>
          rw [hg] at h
          cases B <;> try exact h.elim
          case rows u l =>
            dsimp only at h
            split at h
            · rename_i hsz
              obtain ⟨hi0, h⟩ := h
              obtain ⟨cs', h1, h2⟩ := overK_flat _ _ _ _ h
              split at h1
              · rename_i x hx
                obtain ⟨m', h3, h4⟩ := Mem.set_holds h1
                refine ⟨m', h4, fun m2 m2' p2 ha hp hn => ?_⟩
                have ha := ha id (by simp [idsV, addId, idx])
                obtain ⟨m3, h5, h6⟩ := Mem.set_any h1 m2 (some (.rows u (l.set i x)))
                unfold opStore
                rw [hr]
                dsimp only
                rw [hs]
                dsimp only
                rw [ha, hg]
                dsimp only
                rw [hsz]
                dsimp only
                refine ⟨hi0, ?_⟩
                rw [h2, hx]
                dsimp only
                rw [h6]
                refine ⟨rfl, fun id' => ?_, h5.2.trans hn.symm⟩
                rw [h5.1 id', hp id', h3.1 id']
                by_cases e : id' = id
                · subst e; simp [idsV, addId, idx]
                · simp [idsV, addId, idx, e]
              · exact h1.elim
            · exact h.elim
theorem elemsOf_agree {u : Ty} {m m2 : Mem} {x : SV} (h : ∀ id, ment id x = true → m2.get id = m.get id) : elemsOf u m2 x = elemsOf u m x := by
  cases x <;> try rfl
  case row id =>
    have := h id (by simp [ment])
    simp only [elemsOf, this]
  case arr id off n =>
    have := h id (by simp [ment])
    simp only [elemsOf, this]

theorem mem_range1 {id n k : Nat} : id ∈ List.range' n k ↔ n ≤ id ∧ id < n + k := by simp [List.mem_range'_1]

/-- append. -/
theorem opAppend_at {t : TypeId} {s x : SV} {p : Plan} {m : Mem} {κ : Kont α} (h : (opAppend E t s x p m κ).holds L) :
    ∃ v p' m', (κ v p' m').holds L ∧ m.next ≤ m'.next ∧ ∀ (F : List Nat) (m2 m2' : Mem), (∀ id, ment id s = true ∨ ment id x = true → id ∈ F) → (∀ id ∈ F, m2.get id = m.get id) → m2.next = m.next →
      (∀ id, m2'.get id = if id ∈ F ++ List.range' m.next (m'.next - m.next) then m'.get id else m2.get id) → m2'.next = m'.next →
      (opAppend E t s x .auto m2 fun v _ m => .leaf (v, m)).holds fun y => y.1 = v ∧ (∀ id, y.2.get id = m2'.get id) ∧ y.2.next = m2'.next := by
  unfold opAppend at h
  split at h
  · rename_i e sz by_ ze ty0 eg he hrow
    split at h
    · rename_i de size bytes ze' u eg' he' hre
      split at h
      · rename_i hs
        split at h
        · rename_i xs hxs
          split at h
          · -- nil
            obtain ⟨hb, h⟩ := h
            obtain ⟨m', h1, h2⟩ := Mem.push_holds h
            refine ⟨_, p, m', h2, by rw [h1.2]; omega, fun F m2 m2' hF ha hn hp hn' => ?_⟩
            obtain ⟨m3, h5, h6⟩ := Mem.push_any h m2 (.rows u xs) hn
            unfold opAppend
            rw [hrow]; dsimp only
            rw [hre]; dsimp only
            rw [hs]; dsimp only
            rw [elemsOf_agree (fun id hid => ha id (hF id (.inr hid))), hxs]; dsimp only
            refine ⟨hb, ?_⟩
            rw [h6]
            refine ⟨by rw [hn], fun id => ?_, by rw [h5.2, hn, hn', h1.2]⟩
            rw [h5.1 id, hp id, h1.1 id, hn]
            simp only [List.mem_append, mem_range1, h1.2]
            by_cases e1 : id = m.next
            · subst e1; simp
            · rw [if_neg e1, if_neg e1]
              by_cases e2 : id ∈ F
              · rw [if_pos (.inl e2)]; exact ha id e2
              · rw [if_neg (fun c => c.elim e2 fun c => by omega)]
          · -- a row
            rename_i id
            split at h
            · rename_i v l hg
              split at h
              · rename_i hv
                obtain ⟨hb, h⟩ := h
                obtain ⟨m1, h1, h2⟩ := Mem.set_holds h
                obtain ⟨m', h3, h4⟩ := Mem.push_holds h2
                refine ⟨_, p, m', h4, by rw [h3.2, h1.2]; omega, fun F m2 m2' hF ha hn hp hn' => ?_⟩
                have hid : id ∈ F := hF id (.inl (by simp [ment]))
                obtain ⟨m4, h5, h6⟩ := Mem.set_any h m2 none
                obtain ⟨m5, h7, h8⟩ := Mem.push_any h2 m4 (.rows u ((hv ▸ l : List u.T) ++ xs)) (by rw [h5.2, h1.2, hn])
                unfold opAppend
                rw [hrow]; dsimp only
                rw [hre]; dsimp only
                rw [hs]; dsimp only
                rw [elemsOf_agree (fun id hid => ha id (hF id (.inr hid))), hxs]; dsimp only
                rw [ha id hid, hg]; dsimp only
                rw [dif_pos hv]
                refine ⟨hb, ?_⟩
                rw [h6, h8]
                refine ⟨by rw [h5.2, h1.2, hn], fun j => ?_, by rw [h7.2, h5.2, hn, hn', h3.2, h1.2]⟩
                rw [h7.1 j, hp j, h3.1 j, h5.2, h1.2, hn]
                simp only [List.mem_append, mem_range1, h3.2, h1.2]
                by_cases e1 : j = m.next
                · subst e1; simp
                · rw [if_neg e1, if_neg e1, h5.1 j, h1.1 j]
                  by_cases e3 : j = id
                  · subst e3; rw [if_pos rfl, if_pos rfl]; simp [hid]
                  · rw [if_neg e3, if_neg e3]
                    by_cases e2 : j ∈ F
                    · rw [if_pos (.inl e2)]; exact ha j e2
                    · rw [if_neg (fun c => c.elim e2 fun c => by omega)]
              · exact h.elim
            · exact h.elim
          · -- an array's slice
            rename_i id off n
            split at h
            · rename_i l hl
              obtain ⟨p', h⟩ := dec_holds h
              cases hxe : xs.isEmpty with
              | true =>
                rw [hxe] at h
                refine ⟨_, p', m, h, Nat.le_refl _, fun F m2 m2' hF ha hn hp hn' => ?_⟩
                unfold opAppend
                rw [hrow]; dsimp only
                rw [hre]; dsimp only
                rw [hs]; dsimp only
                rw [elemsOf_agree (fun id hid => ha id (hF id (.inr hid))), hxs]; dsimp only
                rw [elemsOf_agree (fun id hid => ha id (hF id (.inl hid))), hl]; dsimp only
                rw [hxe]
                refine ⟨rfl, fun j => ?_, by rw [hn, hn']⟩
                rw [hp j]
                by_cases e2 : j ∈ F
                · rw [if_pos (List.mem_append_left _ e2)]; exact ha j e2
                · rw [if_neg (by simp [e2])]
              | false =>
                rw [hxe] at h
                obtain ⟨hb, h⟩ := h
                obtain ⟨m', h1, h2⟩ := Mem.push_holds h
                refine ⟨_, p', m', h2, by rw [h1.2]; omega, fun F m2 m2' hF ha hn hp hn' => ?_⟩
                obtain ⟨m3, h5, h6⟩ := Mem.push_any h m2 (.rows u (l ++ xs)) hn
                unfold opAppend
                rw [hrow]; dsimp only
                rw [hre]; dsimp only
                rw [hs]; dsimp only
                rw [elemsOf_agree (fun id hid => ha id (hF id (.inr hid))), hxs]; dsimp only
                rw [elemsOf_agree (fun id hid => ha id (hF id (.inl hid))), hl]; dsimp only
                rw [hxe]
                refine ⟨hb, ?_⟩
                rw [h6]
                refine ⟨by rw [hn], fun id => ?_, by rw [h5.2, hn, hn', h1.2]⟩
                rw [h5.1 id, hp id, h1.1 id, hn]
                simp only [List.mem_append, mem_range1, h1.2]
                by_cases e1 : id = m.next
                · subst e1; simp
                · rw [if_neg e1, if_neg e1]
                  by_cases e2 : id ∈ F
                  · rw [if_pos (.inl e2)]; exact ha id e2
                  · rw [if_neg (fun c => c.elim e2 fun c => by omega)]
            · exact h.elim
          · exact h.elim
        · exact h.elim
      · exact h.elim
    · exact h.elim
  · exact h.elim

/-! ### What is handed back, there -/

theorem adopt1_at {v : SV} {mc m : Mem} {k : SV → Mem → Mem → Tree α} (h : (adopt1 v mc m k).holds L) : ∃ v' mc' m', (k v' mc' m').holds L ∧ m.next ≤ m'.next ∧ (∀ id, ¬ (m.next ≤ id ∧ id < m'.next) → m'.get id = m.get id) ∧
    ∀ m2 : Mem, m2.next = m.next → ∃ m2', m2'.next = m'.next ∧ (∀ id, m2'.get id = if m.next ≤ id ∧ id < m'.next then m'.get id else m2.get id) ∧ ∀ (δ : Type) (k2 : SV → Mem → Mem → Tree δ), adopt1 v mc m2 k2 = k2 v' mc' m2' := by
  have plain : ∀ v : SV, (∀ (m : Mem) (δ : Type) (k : SV → Mem → Mem → Tree δ), adopt1 v mc m k = k v mc m) → (k v mc m).holds L → ∃ v' mc' m', (k v' mc' m').holds L ∧ m.next ≤ m'.next ∧ (∀ id, ¬ (m.next ≤ id ∧ id < m'.next) → m'.get id = m.get id) ∧
      ∀ m2 : Mem, m2.next = m.next → ∃ m2', m2'.next = m'.next ∧ (∀ id, m2'.get id = if m.next ≤ id ∧ id < m'.next then m'.get id else m2.get id) ∧ ∀ (δ : Type) (k2 : SV → Mem → Mem → Tree δ), adopt1 v mc m2 k2 = k2 v' mc' m2' :=
    fun v he h => ⟨v, mc, m, h, Nat.le_refl _, fun _ _ => rfl, fun m2 hn => ⟨m2, hn, fun id => by rw [if_neg (by omega)], fun δ k2 => he m2 δ k2⟩⟩
  cases v with
  | row id =>
    dsimp only [adopt1] at h
    split at h
    · rename_i t l hg
      obtain ⟨mc', _, h6⟩ := Mem.set_any h mc none
      rw [h6] at h
      obtain ⟨m', h3, h4⟩ := Mem.push_any h m (.rows t l) rfl
      rw [h4] at h
      refine ⟨_, mc', m', h, by rw [h3.2]; omega, fun j hj => by rw [h3.1 j, if_neg (by rw [h3.2] at hj; omega)], fun m2 hn => ?_⟩
      have h0 : (m.push (.rows t l) fun m id => k (.row id) mc' m).holds L := by rw [h4]; exact h
      obtain ⟨m3, h7, h8⟩ := Mem.push_any h0 m2 (.rows t l) hn
      refine ⟨m3, by rw [h7.2, h3.2, hn], fun j => ?_, fun δ k2 => ?_⟩
      · rw [h7.1 j, h3.1 j, h3.2, hn]
        by_cases e1 : j = m.next
        · subst e1; simp
        · rw [if_neg e1, if_neg e1, if_neg (by omega)]
      · simp only [adopt1, hg]
        rw [h6, h8, hn]
    · exact h.elim
  | undef => exact plain _ (fun _ _ _ => rfl) h
  | top => exact h.elim
  | int a b => exact plain _ (fun _ _ _ => rfl) h
  | bool a => exact plain _ (fun _ _ _ => rfl) h
  | str a => exact plain _ (fun _ _ _ => rfl) h
  | nilS => exact plain _ (fun _ _ _ => rfl) h
  | list a b => exact plain _ (fun _ _ _ => rfl) h
  | arr a b c => exact h.elim
  | ptr a b => exact h.elim
  | nilP => exact plain _ (fun _ _ _ => rfl) h
  | eptr a b c d => exact plain _ (fun _ _ _ => rfl) h
  | rptr a b c d => exact h.elim
  | agg cs =>
    dsimp only [adopt1] at h
    split at h
    · rename_i hd; exact plain _ (fun _ _ _ => by dsimp only [adopt1]; rw [hd]) h
    · exact h.elim
  | tuple cs =>
    dsimp only [adopt1] at h
    split at h
    · rename_i hd; exact plain _ (fun _ _ _ => by dsimp only [adopt1]; rw [hd]) h
    · exact h.elim
  | fn f a c =>
    dsimp only [adopt1] at h
    split at h
    · rename_i hd; exact plain _ (fun _ _ _ => by dsimp only [adopt1]; rw [hd]) h
    · exact h.elim
  | raw u => exact plain _ (fun _ _ _ => rfl) h

theorem adoptL_at : ∀ (vs : List SV) (mc m : Mem) (k : List SV → Mem → Mem → Tree α), (adoptL vs mc m k).holds L → ∃ vs' mc' m', (k vs' mc' m').holds L ∧ m.next ≤ m'.next ∧ (∀ id, ¬ (m.next ≤ id ∧ id < m'.next) → m'.get id = m.get id) ∧
    ∀ m2 : Mem, m2.next = m.next → ∃ m2', m2'.next = m'.next ∧ (∀ id, m2'.get id = if m.next ≤ id ∧ id < m'.next then m'.get id else m2.get id) ∧ ∀ (δ : Type) (k2 : List SV → Mem → Mem → Tree δ), adoptL vs mc m2 k2 = k2 vs' mc' m2'
  | [], mc, m, k, h => ⟨[], mc, m, h, Nat.le_refl _, fun _ _ => rfl, fun m2 hn => ⟨m2, hn, fun id => by rw [if_neg (by omega)], fun δ k2 => rfl⟩⟩
  | v :: vs, mc, m, k, h => by
    change (adopt1 v mc m fun v mc m => adoptL vs mc m fun vs mc m => k (v :: vs) mc m).holds L at h
    obtain ⟨v', mc1, m1, h1, l1, g1, a1⟩ := adopt1_at h
    obtain ⟨vs', mc', m', h2, l2, g2, a2⟩ := adoptL_at vs mc1 m1 _ h1
    refine ⟨v' :: vs', mc', m', h2, Nat.le_trans l1 l2, fun id hid => by rw [g2 id (by omega), g1 id (by omega)], fun m2 hn => ?_⟩
    obtain ⟨m3, n3, e3, k3⟩ := a1 m2 hn
    obtain ⟨m4, n4, e4, k4⟩ := a2 m3 n3
    refine ⟨m4, n4, fun id => ?_, fun δ k2 => ?_⟩
    · rw [e4 id, e3 id]
      by_cases c2 : m1.next ≤ id ∧ id < m'.next
      · rw [if_pos c2, if_pos (by omega)]
      · rw [if_neg c2]
        by_cases c1 : m.next ≤ id ∧ id < m1.next
        · rw [if_pos c1, if_pos (by omega), g2 id c2]
        · rw [if_neg c1, if_neg (by omega)]
    · change (adopt1 v mc m2 fun v mc m => adoptL vs mc m fun vs mc m => k2 (v :: vs) mc m) = _
      rw [k3, k4]

theorem adopt_at {v : SV} {mc m : Mem} {k : SV → Mem → Tree α} (h : (adopt v mc m k).holds L) : ∃ v' m', (k v' m').holds L ∧ m.next ≤ m'.next ∧ (∀ id, ¬ (m.next ≤ id ∧ id < m'.next) → m'.get id = m.get id) ∧
    ∀ m2 : Mem, m2.next = m.next → ∃ m2', m2'.next = m'.next ∧ (∀ id, m2'.get id = if m.next ≤ id ∧ id < m'.next then m'.get id else m2.get id) ∧ ∀ (δ : Type) (k2 : SV → Mem → Tree δ), adopt v mc m2 k2 = k2 v' m2' := by
  have one : ∀ v : SV, (∀ (m : Mem) (δ : Type) (k : SV → Mem → Tree δ), adopt v mc m k = adopt1 v mc m fun v _ m => k v m) → (adopt1 v mc m fun v _ m => k v m).holds L → ∃ v' m', (k v' m').holds L ∧ m.next ≤ m'.next ∧ (∀ id, ¬ (m.next ≤ id ∧ id < m'.next) → m'.get id = m.get id) ∧
      ∀ m2 : Mem, m2.next = m.next → ∃ m2', m2'.next = m'.next ∧ (∀ id, m2'.get id = if m.next ≤ id ∧ id < m'.next then m'.get id else m2.get id) ∧ ∀ (δ : Type) (k2 : SV → Mem → Tree δ), adopt v mc m2 k2 = k2 v' m2' := by
    intro v he h
    obtain ⟨v', mc', m', h1, l1, g1, a1⟩ := adopt1_at h
    refine ⟨v', m', h1, l1, g1, fun m2 hn => ?_⟩
    obtain ⟨m3, n3, e3, k3⟩ := a1 m2 hn
    exact ⟨m3, n3, e3, fun δ k2 => by rw [he, k3]⟩
  cases v with
  | tuple vs =>
    obtain ⟨v', mc', m', h1, l1, g1, a1⟩ := adoptL_at vs mc m _ h
    refine ⟨_, m', h1, l1, g1, fun m2 hn => ?_⟩
    obtain ⟨m3, n3, e3, k3⟩ := a1 m2 hn
    exact ⟨m3, n3, e3, fun δ k2 => k3 _ _⟩
  | agg vs =>
    obtain ⟨v', mc', m', h1, l1, g1, a1⟩ := adoptL_at vs mc m _ h
    refine ⟨_, m', h1, l1, g1, fun m2 hn => ?_⟩
    obtain ⟨m3, n3, e3, k3⟩ := a1 m2 hn
    exact ⟨m3, n3, e3, fun δ k2 => k3 _ _⟩
  | _ => exact one _ (fun _ _ _ => rfl) h
end
end Go.Sx
set_option linter.unusedSimpArgs false
set_option linter.unusedVariables false
namespace Go.Sx
open Go.RowKit
section
variable {P : Program} {E : Env} {α : Type} {L : α → Prop}

/-- What is asked of the handler of calls that make rows. -/
def CallGOK (P : Program) (call : CallK α) : Prop :=
  ∀ f args p m (κ : Kont α) (L : α → Prop), (call f args p m κ).holds L → ∃ v p' m', (κ v p' m').holds L ∧ m.next ≤ m'.next ∧ ∀ (F : List Nat) (m2 m2' : Mem), (∀ id, mentL id args = true → id ∈ F) → (∀ id ∈ F, m2.get id = m.get id) → m2.next = m.next →
    (∀ id, m2'.get id = if id ∈ F ++ List.range' m.next (m'.next - m.next) then m'.get id else m2.get id) → m2'.next = m'.next → SemCall P m2 v m2' f args

theorem mentL_mem {id : Nat} : ∀ {l : List SV} {x : SV}, x ∈ l → ment id x = true → mentL id l = true
  | y :: l, x, h, hm => by
    show (ment id y || mentL id l) = true
    rcases List.mem_cons.1 h with rfl | h
    · rw [hm]; rfl
    · rw [mentL_mem h hm]; simp

theorem idx_mem : ∀ {l : List Nat} {k j : Nat}, idx l k = some j → k ∈ l
  | x :: l, k, j, h => by
    unfold idx at h
    split at h
    · rename_i hx
      rw [Nat.eq_of_beq_eq_true hx]; exact List.mem_cons_self
    · split at h
      · rename_i j' hj
        exact List.mem_cons_of_mem _ (idx_mem hj)
      · cases h
theorem addId_mem {id : Nat} {l : List Nat} : id ∈ addId id l ∧ ∀ k ∈ l, k ∈ addId id l := by
  unfold addId
  split
  · rename_i j hj; exact ⟨idx_mem hj, fun k hk => hk⟩
  · exact ⟨by simp, fun k hk => by simp [hk]⟩
mutual
theorem idsV_mem {k : Nat} : ∀ (x : SV) (l : List Nat), (ment k x = true → k ∈ idsV x l) ∧ ∀ j ∈ l, j ∈ idsV x l
  | .undef, l => ⟨fun h => (by cases h), fun j hj => hj⟩
  | .top, l => ⟨fun h => (by cases h), fun j hj => hj⟩
  | .int _ _, l => ⟨fun h => (by cases h), fun j hj => hj⟩
  | .bool _, l => ⟨fun h => (by cases h), fun j hj => hj⟩
  | .str _, l => ⟨fun h => (by cases h), fun j hj => hj⟩
  | .nilS, l => ⟨fun h => (by cases h), fun j hj => hj⟩
  | .list _ _, l => ⟨fun h => (by cases h), fun j hj => hj⟩
  | .row id, l => ⟨fun h => by rw [← Nat.eq_of_beq_eq_true (show Nat.beq id k = true from h)]; exact addId_mem.1, addId_mem.2⟩
  | .arr id _ _, l => ⟨fun h => by rw [← Nat.eq_of_beq_eq_true (show Nat.beq id k = true from h)]; exact addId_mem.1, addId_mem.2⟩
  | .ptr id _, l => ⟨fun h => by rw [← Nat.eq_of_beq_eq_true (show Nat.beq id k = true from h)]; exact addId_mem.1, addId_mem.2⟩
  | .nilP, l => ⟨fun h => (by cases h), fun j hj => hj⟩
  | .eptr _ _ _ _, l => ⟨fun h => (by cases h), fun j hj => hj⟩
  | .rptr id _ _ _, l => ⟨fun h => by rw [← Nat.eq_of_beq_eq_true (show Nat.beq id k = true from h)]; exact addId_mem.1, addId_mem.2⟩
  | .agg cs, l => idsL_mem cs l
  | .tuple cs, l => idsL_mem cs l
  | .fn _ a b, l => by
    obtain ⟨a1, a2⟩ := idsL_mem (k := k) a l
    obtain ⟨b1, b2⟩ := idsL_mem (k := k) b (idsL a l)
    refine ⟨fun h => ?_, fun j hj => b2 j (a2 j hj)⟩
    have h : (mentL k a || mentL k b) = true := h
    rcases Bool.or_eq_true _ _ ▸ h with h | h
    · exact b2 k (a1 h)
    · exact b1 h
  | .raw _, l => ⟨fun h => (by cases h), fun j hj => hj⟩
theorem idsL_mem {k : Nat} : ∀ (xs : List SV) (l : List Nat), (mentL k xs = true → k ∈ idsL xs l) ∧ ∀ j ∈ l, j ∈ idsL xs l
  | [], l => ⟨fun h => (by cases h), fun j hj => hj⟩
  | x :: xs, l => by
    obtain ⟨a1, a2⟩ := idsV_mem (k := k) x l
    obtain ⟨b1, b2⟩ := idsL_mem (k := k) xs (idsV x l)
    refine ⟨fun h => ?_, fun j hj => b2 j (a2 j hj)⟩
    have h : (ment k x || mentL k xs) = true := h
    rcases Bool.or_eq_true _ _ ▸ h with h | h
    · exact b2 k (a1 h)
    · exact b1 h
end

/-- An operation that reads. -/
theorem reader_at (hE : EOK P E) {call : CallK α} (hcall : CallOK P true call) {ev : Operand → SV} {o : Oper} {p : Plan} {m : Mem} {κ : Kont α} (hk : (pureOp o.op || (shapeOp o.op || isLoad o.op)) = true) (h : (execOp E call ev o.op p m κ).holds L) :
    ∃ v p' m', (κ v p' m').holds L ∧ ∀ m2, (∀ id B, m.get id = some B → m2.get id = some B) → SemOp P m2 v m2 o ev := by
  obtain ⟨v, p', m', h1, _, _, hx⟩ := execOp_sound hE hcall h
  refine ⟨v, p', m', h1, fun m2 hm2 => ?_⟩
  rcases Bool.or_eq_true _ _ ▸ hk with hk | hk
  · exact hx.pure hk m2
  · rcases Bool.or_eq_true _ _ ▸ hk with hk | hk
    · exact hx.shape hk m2 (Up.shape hm2)
    · refine hx.up rfl ?_ m2 hm2
      generalize o.op = op at hk
      cases op <;> first | rfl | cases hk

/-- A store. -/
theorem store_at (hE : EOK P E) {call : CallK α} {ev : Operand → SV} {o : Oper} {p : Plan} {m : Mem} {κ : Kont α} (hk : isStore o.op = true) (h : (execOp E call ev o.op p m κ).holds L) :
    ∃ m', (κ .undef p m').holds L ∧ ∀ (m2 m2' : Mem), (∀ id ∈ footOf ev o.op, m2.get id = m.get id) → (∀ id, m2'.get id = if id ∈ footOf ev o.op then m'.get id else m2.get id) → m2'.next = m2.next → SemOp P m2 .undef m2' o ev := by
  obtain ⟨dst, op, ty, pos, after, guard⟩ := o
  cases op <;> try cases hk
  rename_i t a x
  obtain ⟨m', h1, h2⟩ := opStore_at (E := E) (α := α) (L := L) (κ := κ) h
  exact ⟨m', h1, fun m2 m2' ha hp hn => semOp_of_run hE (call := fun _ _ _ _ _ => .fail 0) noCall_ok (p := p) (h2 m2 m2' p ha hp hn)⟩

open Classical in
/-- A call that is known to hand on this. -/
noncomputable def onlyCall (f : FuncId) (args : List SV) (m m' : Mem) (v : SV) : CallK (SV × Mem) := fun f' args' p m1 κ => if f' = f ∧ args' = args ∧ m1 = m then κ v p m' else .fail 0
theorem onlyCall_ok {f : FuncId} {args : List SV} {m m' : Mem} {v : SV} (h : SemCall P m v m' f args) : CallOK P false (onlyCall f args m m' v) := by
  intro f' args' p m1 κ L hh
  unfold onlyCall at hh
  split at hh
  · rename_i hc
    obtain ⟨rfl, rfl, rfl⟩ := hc
    exact ⟨v, p, m', hh, fun hq => (by cases hq), h⟩
  · exact hh.elim

/-- An operation that makes rows. -/
theorem maker_at (hE : EOK P E) {call : CallK α} (hcall : CallGOK P call) {fr : Fr} {o : Oper} {p : Plan} {m : Mem} {κ : Kont α} (hk : isG E o.op = true) (h : (execOp E call (evalIn fr) o.op p m κ).holds L) :
    ∃ v p' m', (κ v p' m').holds L ∧ m.next ≤ m'.next ∧ ∀ (m2 m2' : Mem), (∀ id ∈ footOf (evalIn fr) o.op, m2.get id = m.get id) → m2.next = m.next → (∀ id, m2'.get id = if id ∈ footOf (evalIn fr) o.op ++ List.range' m.next (m'.next - m.next) then m'.get id else m2.get id) → m2'.next = m'.next → SemOp P m2 v m2' o (evalIn fr) := by
  obtain ⟨dst, op, ty, pos, after, guard⟩ := o
  cases op <;> try cases hk
  rename_i c
  obtain ⟨callee, args, argTypes⟩ := c
  dsimp only at hk h ⊢
  have hops : ∀ x ∈ args.toList, ∀ id, ment id (evalIn fr x) = true → id ∈ footOf (evalIn fr) (.call ⟨callee, args, argTypes⟩) := by
    intro x hx id hid
    refine (idsL_mem (k := id) _ []).1 (mentL_mem (List.mem_map.2 ⟨x, ?_, rfl⟩) hid)
    cases callee <;> simp [Op.operands, Call.operands] <;> simp_all
  cases callee with
  | builtin b =>
    cases b <;> try cases hk
    -- append
    have h : (opBuiltin E .append argTypes.toList (args.toList.map (evalIn fr)) p m κ).holds L := h
    have shape : ∃ t t1 a b, argTypes.toList = [t, t1] ∧ args.toList = [a, b] := by
      rcases hl : args.toList with _ | ⟨a, _ | ⟨b, _ | ⟨c, l⟩⟩⟩ <;> rcases hts : argTypes.toList with _ | ⟨t, _ | ⟨t1, _ | ⟨t2, l'⟩⟩⟩ <;> rw [hl, hts] at h <;> first
        | exact h.elim
        | exact ⟨t, t1, a, b, rfl, rfl⟩
    obtain ⟨t, t1, a, b, hts, hab⟩ := shape
    have hvs : args.toList.map (evalIn fr) = [evalIn fr a, evalIn fr b] := by rw [hab]; rfl
    rw [hts, hvs] at h
    have run : ∀ (h : (opAppend E t (evalIn fr a) (evalIn fr b) p m κ).holds L), (∀ (β : Type) (κ2 : Kont β) (m2 : Mem), (opBuiltin E .append argTypes.toList (args.toList.map (evalIn fr)) .auto m2 κ2) = opAppend E t (evalIn fr a) (evalIn fr b) .auto m2 κ2) → ∃ v p' m', (κ v p' m').holds L ∧ m.next ≤ m'.next ∧ ∀ (m2 m2' : Mem), (∀ id ∈ footOf (evalIn fr) (.call ⟨.builtin .append, args, argTypes⟩), m2.get id = m.get id) → m2.next = m.next → (∀ id, m2'.get id = if id ∈ footOf (evalIn fr) (.call ⟨.builtin .append, args, argTypes⟩) ++ List.range' m.next (m'.next - m.next) then m'.get id else m2.get id) → m2'.next = m'.next → SemOp P m2 v m2' ⟨dst, .call ⟨.builtin .append, args, argTypes⟩, ty, pos, after, guard⟩ (evalIn fr) := by
      intro h he
      obtain ⟨v, p', m', h1, h2, h3⟩ := opAppend_at h
      refine ⟨v, p', m', h1, h2, fun m2 m2' ha hn hp hn' => ?_⟩
      refine semOp_of_run hE (call := fun _ _ _ _ _ => .fail 0) noCall_ok (p := .auto) ?_
      dsimp only [execOp, opCall]
      rw [he]
      exact h3 _ m2 m2' (fun id hid => hid.elim (hops a (by rw [hab]; simp) id) (hops b (by rw [hab]; simp) id)) ha hn hp hn'
    have h : ((match E.row t1 with
      | some { desc := .slice _, .. } => opAppend E t (evalIn fr a) (evalIn fr b) p m κ
      | some { desc := .string, .. } => opAppend E t (evalIn fr a) (evalIn fr b) p m κ
      | _ => .fail 89 : Tree α)).holds L := h
    split at h
    · rename_i e sz by_ ze ty0 eg he hrow
      refine run h fun β κ2 m2 => ?_
      rw [hts, hvs]
      show (match E.row t1 with
        | some { desc := .slice _, .. } => opAppend E t (evalIn fr a) (evalIn fr b) .auto m2 κ2
        | some { desc := .string, .. } => opAppend E t (evalIn fr a) (evalIn fr b) .auto m2 κ2
        | _ => .fail 89 : Tree β) = _
      rw [hrow]
    · rename_i sz by_ ze ty0 eg he hrow
      refine run h fun β κ2 m2 => ?_
      rw [hts, hvs]
      show (match E.row t1 with
        | some { desc := .slice _, .. } => opAppend E t (evalIn fr a) (evalIn fr b) .auto m2 κ2
        | some { desc := .string, .. } => opAppend E t (evalIn fr a) (evalIn fr b) .auto m2 κ2
        | _ => .fail 89 : Tree β) = _
      rw [hrow]
    · exact h.elim
  | value f =>
    cases f <;> try cases hk
    rename_i k
    dsimp only [execOp, opCall, evalIn] at h
    simp only [List.nil_append, List.append_nil] at h
    obtain ⟨v, p', m', h1, h2, h3⟩ := hcall _ _ _ _ _ _ h
    refine ⟨v, p', m', h1, h2, fun m2 m2' ha hn hp hn' => ?_⟩
    have hsem := h3 _ m2 m2' (fun id hid => ?_) ha hn hp hn'
    · refine semOp_of_run hE (onlyCall_ok hsem) (p := .auto) ?_
      dsimp only [execOp, opCall, evalIn]
      simp only [List.nil_append, List.append_nil]
      unfold onlyCall
      rw [if_pos ⟨rfl, rfl, rfl⟩]
      exact ⟨rfl, fun _ => rfl, rfl⟩
    · -- an argument mentions it
      have : ∃ x ∈ args.toList.map (evalIn fr), ment id x = true := by
        revert hid
        generalize args.toList.map (evalIn fr) = l
        induction l with
        | nil => intro h; cases h
        | cons y l ih =>
          intro h
          have h : (ment id y || mentL id l) = true := h
          rcases Bool.or_eq_true _ _ ▸ h with h | h
          · exact ⟨y, List.mem_cons_self, h⟩
          · obtain ⟨x, h1, h2⟩ := ih h
            exact ⟨x, List.mem_cons_of_mem _ h1, h2⟩
      obtain ⟨x, hx, hm⟩ := this
      obtain ⟨a, ha', rfl⟩ := List.mem_map.1 hx
      exact hops a ha' id hm
  | invoke a b => cases hk
end
end Go.Sx
set_option linter.unusedSimpArgs false
set_option linter.unusedVariables false
namespace Go.Sx
open Go.RowKit

theorem tbSet_ex' {β : Type} : ∀ (i : Nat) (t : Tb β) (v : Option β), ∃ t', TbSet t i v t' := by
  intro i
  induction i using Nat.strongRecOn with
  | ind i ih =>
    intro t v
    obtain ⟨l, x, r, hg⟩ : ∃ l x r, ∀ k, t.get k = (Tb.n l x r).get k := by
      cases t with
      | n l x r => exact ⟨l, x, r, fun _ => rfl⟩
      | e =>
        refine ⟨.e, none, .e, fun k => ?_⟩
        cases k with
        | zero => rfl
        | succ j =>
          rw [Tb.get_n_succ]
          by_cases h : j % 2 = 0
          · rw [Tb.pick_even h]; rfl
          · rw [Tb.pick_odd h]; rfl
    cases i with
    | zero =>
      refine ⟨.n l v r, fun k => ?_⟩
      cases k with
      | zero => rfl
      | succ j => rw [if_neg (by omega), hg]; rfl
    | succ i =>
      by_cases hi : i % 2 = 0
      · obtain ⟨l', hl⟩ := ih (i / 2) (by omega) l v
        refine ⟨.n l' x r, fun k => ?_⟩
        cases k with
        | zero => rw [if_neg (by omega), hg]; rfl
        | succ j =>
          rw [hg, Tb.get_n_succ, Tb.get_n_succ]
          by_cases h : j % 2 = 0
          · rw [Tb.pick_even h, Tb.pick_even h, hl]
            by_cases e : j = i
            · subst e; simp
            · rw [if_neg (by omega), if_neg (by omega)]
          · rw [Tb.pick_odd h, Tb.pick_odd h, if_neg (by omega)]
      · obtain ⟨r', hr⟩ := ih (i / 2) (by omega) r v
        refine ⟨.n l x r', fun k => ?_⟩
        cases k with
        | zero => rw [if_neg (by omega), hg]; rfl
        | succ j =>
          rw [hg, Tb.get_n_succ, Tb.get_n_succ]
          by_cases h : j % 2 = 0
          · rw [Tb.pick_even h, Tb.pick_even h, if_neg (by omega)]
          · rw [Tb.pick_odd h, Tb.pick_odd h, hr]
            by_cases e : j = i
            · subst e; simp
            · rw [if_neg (by omega), if_neg (by omega)]

section
variable {P : Program} {E : Env} {α : Type} {L : α → Prop}

theorem hasN_iff {l : List Nat} {k : Nat} : hasN l k = true ↔ k ∈ l := by
  simp only [hasN, List.any_eq_true]
  exact ⟨fun ⟨x, h1, h2⟩ => by rw [← Nat.eq_of_beq_eq_true h2]; exact h1, fun h => ⟨k, h, by simp⟩⟩
theorem meet_iff {l k : List Nat} : meet l k = true ↔ ∃ x, x ∈ l ∧ x ∈ k := by
  simp only [meet, List.any_eq_true]
  exact ⟨fun ⟨x, h1, h2⟩ => ⟨x, h1, hasN_iff.1 h2⟩, fun ⟨x, h1, h2⟩ => ⟨x, h1, hasN_iff.2 h2⟩⟩

/-- One operation of the text, and what it does wherever its boxes are as they are here. -/
structure StepT (P : Program) (all : List Oper) (refs : List (Nat × Nat)) (i : Nat) (o : Oper) (fr : Fr) (m : Mem) (v : SV) (m1 : Mem) (s : Rec) : Prop where
  keep : ∀ id, id ∉ s.wt → m1.get id = m.get id
  le : m.next ≤ m1.next
  same : s.g = false → m1.next = m.next
  step : (gval all fr.get o = some false ∧ v = .undef ∧ s.wt = [] ∧ s.g = false) ∨
    (gval all fr.get o = some true ∧ ∀ m2 m2' : Mem, (∀ id, id ∈ s.rd ∨ id ∈ s.wt → m2.get id = m.get id) → (s.g = true → m2.next = m.next) → (∀ id, m2'.get id = if id ∈ s.wt then m1.get id else m2.get id) → (m2'.next = if s.g = true then m1.next else m2.next) → SemOp P m2 v m2' o (evalIn fr)) ∨
    (∃ t k r, o.op = .alloc t ∧ o.guard = none ∧ idOf refs i = some k ∧ RowOK P t r ∧ v = .ptr k 0 ∧ s.wt = [k] ∧ s.g = false ∧ m1.get k = some (.cells r.zero))

inductive ChainT (P : Program) (all : List Oper) (refs : List (Nat × Nat)) : Nat → List Oper → List Rec → Fr → Mem → Fr → Mem → Prop where
  | nil (i : Nat) (acc : List Rec) (fr : Fr) (m : Mem) : ChainT P all refs i [] acc fr m fr m
  | cons {i : Nat} {o : Oper} {rest : List Oper} {acc : List Rec} {fr fr1 fr' : Fr} {m m1 m' : Mem} {v : SV} {s : Rec} (hs : s.i = i) (hst : StepT P all refs i o fr m v m1 s) (hf : FSet fr o.dst v fr1)
      (hacc : okAcc all o acc s = true) (href : okRefs all refs o i v s.wt (s.wt.map m1.get) = true) (k : ChainT P all refs (i + 1) rest (s :: acc) fr1 m1 fr' m') : ChainT P all refs i (o :: rest) acc fr m fr' m'

theorem finT_holds {refs : List (Nat × Nat)} {all : List Oper} {o : Oper} {acc : List Rec} {ih : OpsT α} {v : SV} {p : Plan} {fr : Fr} {mN : Mem} {s : Rec} (h : (finT refs all o acc ih v p fr mN s).holds L) :
    ∃ fr1, (ih (s :: acc) p fr1 mN).holds L ∧ FSet fr o.dst v fr1 ∧ okAcc all o acc s = true ∧ okRefs all refs o s.i v s.wt (s.wt.map mN.get) = true := by
  unfold finT at h
  split at h
  · rename_i hc
    rw [Bool.and_eq_true] at hc
    obtain ⟨fr1, h1, h2⟩ := putK_holds h
    exact ⟨fr1, h2, h1, hc.2, hc.1⟩
  · exact h.elim

theorem runT_holds (hE : EOK P E) {call callQ callG : CallK α} (hcall : CallOK P false call) (hcallQ : CallOK P true callQ) (hcallG : CallGOK P callG) {refs : List (Nat × Nat)} {all : List Oper} {i : Nat} {o : Oper} {ih : OpsT α} {acc : List Rec} {p : Plan} {fr : Fr} {m : Mem}
    (hg : gval all fr.get o = some true) (h : (runT E call callQ callG refs all i o ih acc p fr m).holds L) :
    ∃ p' fr1 m1 v s, (ih (s :: acc) p' fr1 m1).holds L ∧ s.i = i ∧ StepT P all refs i o fr m v m1 s ∧ FSet fr o.dst v fr1 ∧ okAcc all o acc s = true ∧ okRefs all refs o i v s.wt (s.wt.map m1.get) = true := by
  unfold runT at h
  split at h
  · -- a new variable
    split at h <;> try exact h.elim
    rename_i t hop
    split at h <;> try exact h.elim
    rename_i k hk
    split at h <;> try exact h.elim
    rename_i r hr
    have hgd : o.guard = none ∧ E.row t = some r := by
      split at hr
      · rename_i hgd; exact ⟨hgd, hr⟩
      · cases hr
    rw [frcL_eq] at h
    obtain ⟨mN, h1, h2⟩ := Mem.set_holds h
    obtain ⟨fr1, g1, g2, g3, g4⟩ := finT_holds h2
    refine ⟨p, fr1, mN, _, _, g1, rfl, ⟨fun id hid => ?_, by rw [h1.2]; exact Nat.le_refl _, fun _ => h1.2, .inr (.inr ⟨t, k, r, hop, hgd.1, hk, hE.row _ _ hgd.2, rfl, rfl, rfl, by rw [h1.1 k, if_pos rfl]⟩)⟩, g2, g3, g4⟩
    rw [h1.1 id, if_neg (fun e => hid (by rw [e]; exact List.mem_cons_self))]
  · split at h
    · rename_i hk
      obtain ⟨mF, h1, hn, ha, hb⟩ := only_get h
      obtain ⟨v, p', mx, h2, h3⟩ := reader_at hE hcallQ hk h1
      obtain ⟨fr1, g1, g2, g3, g4⟩ := finT_holds h2
      refine ⟨p', fr1, m, v, _, g1, rfl, ⟨fun _ _ => rfl, Nat.le_refl _, fun _ => rfl, .inr (.inl ⟨hg, fun m2 m2' e1 _ e3 e4 => ?_⟩)⟩, g2, g3, g4⟩
      refine (h3 m2 fun id B hB => ?_).congr (fun _ => rfl) rfl (fun id => by simpa using e3 id) (by simpa using e4)
      by_cases hid : id ∈ footOf (evalIn fr) o.op
      · rw [e1 id (.inl hid), ← ha id hid]; exact hB
      · rw [hb id hid] at hB; cases hB
    · split at h
      · rename_i hk
        obtain ⟨mF, h1, hn, ha, hb⟩ := only_get h
        obtain ⟨mF', h2, h3⟩ := store_at hE hk h1
        obtain ⟨mN, h4, h5, h6⟩ := patch_holds _ _ _ h2
        obtain ⟨fr1, g1, g2, g3, g4⟩ := finT_holds h4
        refine ⟨p, fr1, mN, _, _, g1, rfl, ⟨fun id hid => by rw [h6 id, if_neg hid], by rw [h5]; exact Nat.le_refl _, fun _ => h5, .inr (.inl ⟨hg, fun m2 m2' e1 _ e3 e4 => ?_⟩)⟩, g2, g3, g4⟩
        refine h3 m2 m2' (fun id hid => by rw [e1 id (.inr hid), ha id hid]) (fun id => ?_) (by simpa using e4)
        rw [e3 id]
        by_cases hid : id ∈ footOf (evalIn fr) o.op
        · have hid' : id ∈ (Rec.mk i [] (footOf (evalIn fr) o.op) false).wt := hid
          rw [if_pos hid', if_pos hid, h6 id, if_pos hid]
        · have hid' : id ∉ (Rec.mk i [] (footOf (evalIn fr) o.op) false).wt := hid
          rw [if_neg hid', if_neg hid]
      · split at h
        · rename_i hk
          obtain ⟨mF, h1, hn, ha, hb⟩ := only_get h
          obtain ⟨v, p', mF', h2, hle, h3⟩ := maker_at hE hcallG hk h1
          obtain ⟨mN, h4, h5, h6⟩ := patch_holds _ _ _ h2
          obtain ⟨fr1, g1, g2, g3, g4⟩ := finT_holds h4
          have h5 : mN.next = mF'.next := h5
          have h6 : ∀ id, mN.get id = if id ∈ footOf (evalIn fr) o.op ++ List.range' m.next (mF'.next - m.next) then mF'.get id else m.get id := h6
          refine ⟨p', fr1, mN, v, _, g1, rfl, ⟨fun id hid => ?_, by rw [h5, ← hn]; exact hle, (by intro hc; cases hc), .inr (.inl ⟨hg, fun m2 m2' e1 e2 e3 e4 => ?_⟩)⟩, g2, g3, g4⟩
          · have hid' : id ∉ footOf (evalIn fr) o.op ++ List.range' m.next (mF'.next - m.next) := hid
            rw [h6 id, if_neg hid']
          · have e1 : ∀ id, id ∈ ([] : List Nat) ∨ id ∈ footOf (evalIn fr) o.op ++ List.range' m.next (mF'.next - m.next) → m2.get id = m.get id := e1
            have e3 : ∀ id, m2'.get id = if id ∈ footOf (evalIn fr) o.op ++ List.range' m.next (mF'.next - m.next) then mN.get id else m2.get id := e3
            have e4 : m2'.next = mN.next := by simpa using e4
            refine h3 m2 m2' (fun id hid => by rw [e1 id (.inr (List.mem_append_left _ hid)), ha id hid]) (by rw [e2 rfl, hn]) (fun id => ?_) (by rw [e4, h5])
            rw [e3 id, hn]
            by_cases hid : id ∈ footOf (evalIn fr) o.op ++ List.range' m.next (mF'.next - m.next)
            · rw [if_pos hid, if_pos hid, h6 id, if_pos hid]
            · rw [if_neg hid, if_neg hid]
        · split at h
          · rename_i hd
            obtain ⟨v, p', mc, h1, _, h3, _⟩ := execOp_sound hE hcall h
            split at h1
            · rename_i hv
              rw [frc_eq] at h1
              obtain ⟨fr1, g1, g2, g3, g4⟩ := finT_holds h1
              refine ⟨p', fr1, m, _, _, g1, rfl, ⟨fun _ _ => rfl, Nat.le_refl _, fun _ => rfl, .inr (.inl ⟨hg, fun m2 m2' e1 _ e3 e4 => ?_⟩)⟩, g2, g3, g4⟩
              exact (semOp_free hd hv h3 m2).congr (fun _ => rfl) rfl (fun id => by simpa using e3 id) (by simpa using e4)
            · exact h1.elim
          · exact h.elim

theorem oneOpT_holds (hE : EOK P E) {call callQ callG : CallK α} (hcall : CallOK P false call) (hcallQ : CallOK P true callQ) (hcallG : CallGOK P callG) {refs : List (Nat × Nat)} {all : List Oper} {i : Nat} {o : Oper} {ih : OpsT α} {acc : List Rec} {p : Plan} {fr : Fr} {m : Mem}
    (h : (oneOpT E call callQ callG refs all i o ih acc p fr m).holds L) :
    ∃ p' fr1 m1 v s, (ih (s :: acc) p' fr1 m1).holds L ∧ s.i = i ∧ StepT P all refs i o fr m v m1 s ∧ FSet fr o.dst v fr1 ∧ okAcc all o acc s = true ∧ okRefs all refs o i v s.wt (s.wt.map m1.get) = true := by
  have run : ∀ (p : Plan) (fr2 : Fr), (∀ t, fr2.get t = fr.get t) → fr2.size = fr.size → gval all fr.get o = some true → (runT E call callQ callG refs all i o ih acc p fr2 m).holds L →
      ∃ p' fr1 m1 v s, (ih (s :: acc) p' fr1 m1).holds L ∧ s.i = i ∧ StepT P all refs i o fr m v m1 s ∧ FSet fr o.dst v fr1 ∧ okAcc all o acc s = true ∧ okRefs all refs o i v s.wt (s.wt.map m1.get) = true := by
    intro p fr2 hg hs hgv h
    have hgf : fr2.get = fr.get := funext hg
    have he : evalIn fr2 = evalIn fr := funext fun x => by cases x <;> simp [evalIn, hg]
    obtain ⟨p', fr1, m1, v, s, h1, h2, ⟨k1, k2, k3, k4⟩, h4, h5, h6⟩ := runT_holds hE hcall hcallQ hcallG (by rw [hgf]; exact hgv) h
    rw [he, hgf] at k4
    exact ⟨p', fr1, m1, v, s, h1, h2, ⟨k1, k2, k3, k4⟩, ⟨h4.1.trans hs, fun t ht => by rw [← hs]; exact h4.2.1 t ht, fun t => by rw [h4.2.2 t, hg t]⟩, h5, h6⟩
  have skip : ∀ (p : Plan) (fr2 : Fr), (∀ t, fr2.get t = fr.get t) → fr2.size = fr.size → gval all fr.get o = some false → (putK fr2 o.dst .undef fun fr => ih (⟨i, [], [], false⟩ :: acc) p fr m).holds L →
      ∃ p' fr1 m1 v s, (ih (s :: acc) p' fr1 m1).holds L ∧ s.i = i ∧ StepT P all refs i o fr m v m1 s ∧ FSet fr o.dst v fr1 ∧ okAcc all o acc s = true ∧ okRefs all refs o i v s.wt (s.wt.map m1.get) = true := by
    intro p fr2 hg hs hgv h
    obtain ⟨fr1, h4, h5⟩ := putK_holds h
    refine ⟨p, fr1, m, .undef, ⟨i, [], [], false⟩, h5, rfl, ⟨fun _ _ => rfl, Nat.le_refl _, fun _ => rfl, .inl ⟨hgv, rfl, rfl, rfl⟩⟩, ⟨h4.1.trans hs, fun t ht => by rw [← hs]; exact h4.2.1 t ht, fun t => by rw [h4.2.2 t, hg t]⟩, ?_, ?_⟩
    · unfold okAcc
      rw [List.all_eq_true]
      intro r _
      simp [Rec.conf, meet, hasN]
    · unfold okRefs
      rw [List.all_eq_true]
      intro ck _
      simp [ment, hasN]
  unfold oneOpT at h
  cases hg : o.guard with
  | none =>
    rw [hg] at h
    exact run p fr (fun _ => rfl) rfl (by simp [gval, hg]) h
  | some jw =>
    rw [hg] at h
    dsimp only at h
    rw [nth_eq] at h
    split at h
    · rename_i oj hoj
      split at h
      · rename_i d hd
        have hb : (all[jw.1]?).bind (·.dst) = some d := by rw [hoj]; exact hd
        split at h
        · rename_i b hfr
          obtain ⟨p', h⟩ := dec_holds h
          obtain ⟨fr2, h1, h2⟩ := Fr.set_holds h
          have hget : ∀ t, fr2.get t = fr.get t := fun t => by
            rw [h1.2.2 t]
            by_cases ht : some d = some t
            · injection ht with ht; subst ht; rw [if_pos rfl, hfr]
            · rw [if_neg ht]
          split at h2
          · rename_i hbw
            exact run p' fr2 hget h1.1 (by simp only [gval, hg, hb, hfr]; rw [hbw]) h2
          · rename_i hbw
            exact skip p' fr2 hget h1.1 (by simp only [gval, hg, hb, hfr]; rw [hbw]) h2
        · rename_i hfr
          exact skip p fr (fun _ => rfl) rfl (by simp only [gval, hg, hb, hfr]) h
        · exact h.elim
      · exact h.elim
    · exact h.elim

theorem execOpsT_chain (hE : EOK P E) {call callQ callG : CallK α} (hcall : CallOK P false call) (hcallQ : CallOK P true callQ) (hcallG : CallGOK P callG) {refs : List (Nat × Nat)} {all : List Oper} {k : OpsK α} : ∀ (ops : List Oper) (i : Nat) (acc : List Rec) (p : Plan) (fr : Fr) (m : Mem),
    (execOpsT E call callQ callG refs all ops k i acc p fr m).holds L → ∃ p' fr' m', (k p' fr' m').holds L ∧ ChainT P all refs i ops acc fr m fr' m'
  | [], i, acc, p, fr, m, h => ⟨p, fr, m, h, .nil i acc fr m⟩
  | o :: rest, i, acc, p, fr, m, h => by
    change (oneOpT E call callQ callG refs all i o (execOpsT E call callQ callG refs all rest k (i + 1)) acc p fr m).holds L at h
    obtain ⟨p1, fr1, m1, v, s, h1, h2, h3, h4, h5, h6⟩ := oneOpT_holds hE hcall hcallQ hcallG h
    obtain ⟨p', fr', m', h7, h8⟩ := execOpsT_chain hE hcall hcallQ hcallG rest (i + 1) (s :: acc) p1 fr1 m1 h1
    exact ⟨p', fr', m', h7, .cons h2 h3 h4 h5 h6 h8⟩

/-! ### By index -/

structure WalkT (P : Program) (all : List Oper) (refs : List (Nat × Nat)) (m m' : Mem) (fr fr' : Fr) (frs : Nat → Fr) (vals : Nat → SV) (ms : Nat → Mem) (rs : Nat → Rec) : Prop where
  first : frs 0 = fr
  last : frs all.length = fr'
  mfirst : ms 0 = m
  mlast : ms all.length = m'
  step : ∀ i o, all[i]? = some o → StepT P all refs i o (frs i) (ms i) (vals i) (ms (i + 1)) (rs i)
  next : ∀ i o, all[i]? = some o → FSet (frs i) o.dst (vals i) (frs (i + 1))
  conf : ∀ i j o, all[j]? = some o → i < j → (rs i).conf (rs j) = true → boundTo all 3 o i = true
  refs : ∀ i o, all[i]? = some o → okRefs all refs o i (vals i) (rs i).wt ((rs i).wt.map (ms (i + 1)).get) = true

theorem ChainT.index {all : List Oper} {refs : List (Nat × Nat)} : ∀ {i : Nat} {ops : List Oper} {acc : List Rec} {fr fr' : Fr} {m m' : Mem}, ChainT P all refs i ops acc fr m fr' m' → ∃ (frs : Nat → Fr) (vals : Nat → SV) (ms : Nat → Mem) (rs : Nat → Rec), frs 0 = fr ∧ frs ops.length = fr' ∧ ms 0 = m ∧ ms ops.length = m' ∧
    (∀ j o, ops[j]? = some o → StepT P all refs (i + j) o (frs j) (ms j) (vals j) (ms (j + 1)) (rs j)) ∧ (∀ j o, ops[j]? = some o → FSet (frs j) o.dst (vals j) (frs (j + 1))) ∧
    (∀ j o, ops[j]? = some o → (rs j).i = i + j) ∧ (∀ j o r, ops[j]? = some o → r ∈ acc → r.conf (rs j) = true → boundTo all 3 o r.i = true) ∧ (∀ j k o, ops[k]? = some o → j < k → (rs j).conf (rs k) = true → boundTo all 3 o (i + j) = true) ∧
    (∀ j o, ops[j]? = some o → okRefs all refs o (i + j) (vals j) (rs j).wt ((rs j).wt.map (ms (j + 1)).get) = true) := by
  intro i ops acc fr fr' m m' h
  induction h with
  | nil i acc fr m => exact ⟨fun _ => fr, fun _ => .undef, fun _ => m, fun _ => ⟨0, [], [], false⟩, rfl, rfl, rfl, rfl, fun j o h => by simp at h, fun j o h => by simp at h, fun j o h => by simp at h, fun j o r h => by simp at h, fun j k o h => by simp at h, fun j o h => by simp at h⟩
  | @cons i o rest acc fr fr1 fr' m m1 m' v s hs hst hf hacc href k ih =>
    obtain ⟨frs, vals, ms, rs, h1, h2, h1m, h2m, h3, h4, h5, h6, h7, h8⟩ := ih
    refine ⟨fun i => Nat.casesOn i fr frs, fun i => Nat.casesOn i v vals, fun i => Nat.casesOn i m ms, fun i => Nat.casesOn i s rs, rfl, h2, rfl, h2m, fun j o' hj => ?_, fun j o' hj => ?_, fun j o' hj => ?_, fun j o' r hj hr hc => ?_, fun j k o' hk hjk hc => ?_, fun j o' hj => ?_⟩
    · cases j with
      | zero => simp at hj; subst hj; dsimp only; rw [h1m]; exact hst
      | succ j => have := h3 j o' (by simpa using hj); rwa [show i + (j + 1) = i + 1 + j by omega]
    · cases j with
      | zero => simp at hj; subst hj; dsimp only; rw [h1]; exact hf
      | succ j => exact h4 j o' (by simpa using hj)
    · cases j with
      | zero => exact hs
      | succ j => have := h5 j o' (by simpa using hj); dsimp only; omega
    · cases j with
      | zero =>
        simp at hj; subst hj
        unfold okAcc at hacc
        rw [List.all_eq_true] at hacc
        have := hacc r hr
        have hc : r.conf s = true := hc
        rw [hc] at this
        simpa using this
      | succ j => exact h6 j o' r (by simpa using hj) (List.mem_cons_of_mem _ hr) hc
    · cases k with
      | zero => omega
      | succ k =>
        cases j with
        | zero =>
          have := h6 k o' s (by simpa using hk) List.mem_cons_self hc
          rw [hs] at this; simpa using this
        | succ j =>
          have := h7 j k o' (by simpa using hk) (by omega) hc
          rwa [show i + (j + 1) = i + 1 + j by omega]
    · cases j with
      | zero => simp at hj; subst hj; dsimp only; rw [h1m]; exact href
      | succ j => have := h8 j o' (by simpa using hj); rwa [show i + (j + 1) = i + 1 + j by omega]

theorem ChainT.toWalk {all : List Oper} {refs : List (Nat × Nat)} {m m' : Mem} {fr fr' : Fr} (h : ChainT P all refs 0 all [] fr m fr' m') : ∃ frs vals ms rs, WalkT P all refs m m' fr fr' frs vals ms rs := by
  obtain ⟨frs, vals, ms, rs, h1, h2, h3, h4, h5, h6, h7, h8, h9, h10⟩ := h.index
  refine ⟨frs, vals, ms, rs, h1, h2, h3, h4, fun i o ho => ?_, h6, fun i j o ho hij hc => ?_, fun i o ho => ?_⟩
  · have := h5 i o ho; rwa [Nat.zero_add] at this
  · have := h9 i j o ho hij hc; rwa [Nat.zero_add] at this
  · have := h10 i o ho; rwa [Nat.zero_add] at this

/-! ### The memory once a set is done -/

noncomputable def getS (ms : Nat → Mem) (rs : Nat → Rec) (S : Nat → Bool) : Nat → Nat → Option Box
  | 0, id => (ms 0).get id
  | n + 1, id => if S n = true ∧ id ∈ (rs n).wt then (ms (n + 1)).get id else getS ms rs S n id
noncomputable def nextS (ms : Nat → Mem) (rs : Nat → Rec) (S : Nat → Bool) : Nat → Nat
  | 0 => (ms 0).next
  | n + 1 => if S n = true ∧ (rs n).g = true then (ms (n + 1)).next else nextS ms rs S n

theorem override_ex (f : Nat → Option Box) : ∀ (l : List Nat) (t : Tb Box), ∃ t' : Tb Box, ∀ id, t'.get id = if id ∈ l then f id else t.get id
  | [], t => ⟨t, fun id => by simp⟩
  | i :: l, t => by
    obtain ⟨t1, h1⟩ := tbSet_ex' i t (f i)
    obtain ⟨t2, h2⟩ := override_ex f l t1
    refine ⟨t2, fun id => ?_⟩
    rw [h2 id, h1 id]
    by_cases e : id = i
    · subst e; simp
    · simp [e]
theorem getS_ex (ms : Nat → Mem) (rs : Nat → Rec) (S : Nat → Bool) : ∀ n, ∃ t : Tb Box, ∀ id, t.get id = getS ms rs S n id
  | 0 => ⟨(ms 0).tb, fun id => rfl⟩
  | n + 1 => by
    obtain ⟨t, h⟩ := getS_ex ms rs S n
    by_cases hS : S n = true
    · obtain ⟨t', h'⟩ := override_ex (fun id => (ms (n + 1)).get id) (rs n).wt t
      refine ⟨t', fun id => ?_⟩
      rw [h' id, h id]
      simp only [getS, hS, true_and]
    · exact ⟨t, fun id => by rw [h id]; simp only [getS]; rw [if_neg (fun c => hS c.1)]⟩
open Classical in
noncomputable def mkM (g : Nat → Option Box) (n : Nat) : Mem := if h : ∃ t : Tb Box, ∀ id, t.get id = g id then ⟨n, Classical.choose h⟩ else ⟨n, .e⟩
theorem mkM_next (g : Nat → Option Box) (n : Nat) : (mkM g n).next = n := by unfold mkM; split <;> rfl
theorem mkM_get {g : Nat → Option Box} (n : Nat) (h : ∃ t : Tb Box, ∀ id, t.get id = g id) (id : Nat) : (mkM g n).get id = g id := by
  unfold mkM
  rw [dif_pos h]
  exact Classical.choose_spec h id
noncomputable def memS (all : List Oper) (ms : Nat → Mem) (rs : Nat → Rec) (S : Nat → Bool) : Mem := mkM (getS ms rs S all.length) (nextS ms rs S all.length)
theorem memS_get (all : List Oper) (ms : Nat → Mem) (rs : Nat → Rec) (S : Nat → Bool) (id : Nat) : (memS all ms rs S).get id = getS ms rs S all.length id := mkM_get _ (getS_ex ms rs S _) id
theorem memS_next (all : List Oper) (ms : Nat → Mem) (rs : Nat → Rec) (S : Nat → Bool) : (memS all ms rs S).next = nextS ms rs S all.length := mkM_next _ _

section
variable {ms : Nat → Mem} {rs : Nat → Rec} {S S' : Nat → Bool}
theorem getS_congr {id : Nat} : ∀ n, (∀ j, j < n → id ∈ (rs j).wt → S j = S' j) → getS ms rs S n id = getS ms rs S' n id
  | 0, _ => rfl
  | n + 1, h => by
    simp only [getS]
    rw [getS_congr n fun j hj => h j (by omega)]
    by_cases hw : id ∈ (rs n).wt
    · rw [h n (by omega) hw]
    · rw [if_neg (fun c => hw c.2), if_neg (fun c => hw c.2)]
theorem nextS_congr : ∀ n, (∀ j, j < n → (rs j).g = true → S j = S' j) → nextS ms rs S n = nextS ms rs S' n
  | 0, _ => rfl
  | n + 1, h => by
    simp only [nextS]
    rw [nextS_congr n fun j hj => h j (by omega)]
    by_cases hw : (rs n).g = true
    · rw [h n (by omega) hw]
    · rw [if_neg (fun c => hw c.2), if_neg (fun c => hw c.2)]
theorem getS_past {id i : Nat} : ∀ n, i ≤ n → (∀ j, i ≤ j → j < n → id ∈ (rs j).wt → S j = false) → getS ms rs S n id = getS ms rs S i id
  | 0, h, _ => by rw [Nat.le_zero.1 h]
  | n + 1, h, hS => by
    rcases Nat.lt_or_ge n i with h1 | h1
    · rw [show i = n + 1 by omega]
    · simp only [getS]
      rw [if_neg (fun c => by have := hS n h1 (by omega) c.2; rw [c.1] at this; cases this), getS_past n h1 fun j a b => hS j a (by omega)]
theorem nextS_past {i : Nat} : ∀ n, i ≤ n → (∀ j, i ≤ j → j < n → (rs j).g = true → S j = false) → nextS ms rs S n = nextS ms rs S i
  | 0, h, _ => by rw [Nat.le_zero.1 h]
  | n + 1, h, hS => by
    rcases Nat.lt_or_ge n i with h1 | h1
    · rw [show i = n + 1 by omega]
    · simp only [nextS]
      rw [if_neg (fun c => by have := hS n h1 (by omega) c.2; rw [c.1] at this; cases this), nextS_past n h1 fun j a b => hS j a (by omega)]
theorem getS_all {id : Nat} : ∀ n, (∀ j, j < n → id ∉ (rs j).wt → (ms (j + 1)).get id = (ms j).get id) → (∀ j, j < n → id ∈ (rs j).wt → S j = true) → getS ms rs S n id = (ms n).get id
  | 0, _, _ => rfl
  | n + 1, hk, hS => by
    simp only [getS]
    by_cases hw : id ∈ (rs n).wt
    · rw [if_pos ⟨hS n (by omega) hw, hw⟩]
    · rw [if_neg (fun c => hw c.2), hk n (by omega) hw, getS_all n (fun j hj => hk j (by omega)) fun j hj => hS j (by omega)]
theorem nextS_all : ∀ n, (∀ j, j < n → (rs j).g = false → (ms (j + 1)).next = (ms j).next) → (∀ j, j < n → (rs j).g = true → S j = true) → nextS ms rs S n = (ms n).next
  | 0, _, _ => rfl
  | n + 1, hk, hS => by
    simp only [nextS]
    by_cases hw : (rs n).g = true
    · rw [if_pos ⟨hS n (by omega) hw, hw⟩]
    · rw [if_neg (fun c => hw c.2), hk n (by omega) (by simpa using hw), nextS_all n (fun j hj => hk j (by omega)) fun j hj => hS j (by omega)]
theorem nextS_ge : ∀ n, (∀ j, j < n → (ms j).next ≤ (ms (j + 1)).next) → (ms 0).next ≤ nextS ms rs S n
  | 0, _ => Nat.le_refl _
  | n + 1, h => by
    simp only [nextS]
    split
    · have : ∀ k, k ≤ n + 1 → (ms 0).next ≤ (ms k).next := by
        intro k
        induction k with
        | zero => intro _; exact Nat.le_refl _
        | succ k ih => intro hk; exact Nat.le_trans (ih (by omega)) (h k (by omega))
      exact this _ (Nat.le_refl _)
    · exact nextS_ge n fun j hj => h j (by omega)
theorem getS_cases {id : Nat} : ∀ n, (∃ j, j < n ∧ S j = true ∧ id ∈ (rs j).wt ∧ getS ms rs S n id = (ms (j + 1)).get id) ∨ getS ms rs S n id = (ms 0).get id
  | 0 => .inr rfl
  | n + 1 => by
    simp only [getS]
    split
    · rename_i hc; exact .inl ⟨n, by omega, hc.1, hc.2, rfl⟩
    · rcases getS_cases (id := id) n with ⟨j, h1, h2⟩ | h
      · exact .inl ⟨j, by omega, h2⟩
      · exact .inr h
end

theorem traceT_step {all : List Oper} {refs : List (Nat × Nat)} {m m' : Mem} {fr fr' : Fr} {frs : Nat → Fr} {vals : Nat → SV} {ms : Nat → Mem} {rs : Nat → Rec} (hw : WalkT P all refs m m' fr fr' frs vals ms rs) (n0 : Nat)
    (hrefs : ∀ c k, idOf refs c = some k → (c, k) ∈ refs ∧ n0 ≤ k ∧ k < m.next) (hm0 : ∀ id B, m.get id = some B → id < n0 ∧ ∀ k, n0 ≤ k → mentB k (some B) = false) (hfr : ∀ t k, n0 ≤ k → ment k (fr.get t) = false)
    (S : Nat → Bool) (i : Nat) (o : Oper) (hoi : all[i]? = some o) (hSi : S i = false) (hcl : ∀ (j : Nat) (oj : Oper), all[j]? = some oj → S j = true → ∀ e ∈ oj.after, Region.binds .any e = true → S e.on = true) (hready : ∀ e ∈ o.after, Region.binds .any e = true → S e.on = true) :
    StepOK P all o (frs i) (memS all ms rs S) (vals i) (memS all ms rs fun k => if k = i then true else S k) ∨ AllocAt P o n0 (vals i) (cur all fr vals S all.length) (memS all ms rs S) (memS all ms rs fun k => if k = i then true else S k) := by
  have hil : i < all.length := (List.getElem?_eq_some_iff.1 hoi).1
  have get : ∀ j, j < all.length → all[j]? = some (all.getD j o) := fun j hj => by
    rw [List.getD_eq_getElem?_getD, List.getElem?_eq_getElem hj]; rfl
  have ahead : ∀ j, j < i → (rs j).conf (rs i) = true → S j = true := fun j hj hc => bound_in hcl 3 o j hready (hw.conf j i o hoi hj hc)
  have behind : ∀ j, i < j → j < all.length → (rs i).conf (rs j) = true → S j = false := fun j hj hjl hc => by
    rcases Bool.eq_false_or_eq_true (S j) with h | h
    · have := bound_in hcl 3 _ i (fun e he hb => hcl j _ (get j hjl) h e he hb) (hw.conf i j _ (get j hjl) hj hc)
      rw [hSi] at this; cases this
    · exact h
  have keep : ∀ id j, j < all.length → id ∉ (rs j).wt → (ms (j + 1)).get id = (ms j).get id := fun id j hj hid => (hw.step j _ (get j hj)).keep id hid
  have same : ∀ j, j < all.length → (rs j).g = false → (ms (j + 1)).next = (ms j).next := fun j hj => (hw.step j _ (get j hj)).same
  have conf1 : ∀ id j k, id ∈ (rs j).wt → (id ∈ (rs k).rd ∨ id ∈ (rs k).wt) → (rs j).conf (rs k) = true := fun id j k h1 h2 => by
    unfold Rec.conf
    rcases h2 with h2 | h2
    · rw [meet_iff.2 ⟨id, h1, h2⟩]; rfl
    · rw [meet_iff.2 ⟨id, h1, h2⟩]; simp
  have conf2 : ∀ id j k, (id ∈ (rs j).rd ∨ id ∈ (rs j).wt) → id ∈ (rs k).wt → (rs j).conf (rs k) = true := fun id j k h1 h2 => by
    unfold Rec.conf
    rcases h1 with h1 | h1
    · rw [meet_iff.2 ⟨id, h1, h2⟩]; simp
    · rw [show meet (rs j).wt (rs k).wt = true from meet_iff.2 ⟨id, h1, h2⟩]; simp
  have conf3 : ∀ j k, (rs j).g = true → (rs k).g = true → (rs j).conf (rs k) = true := fun j k h1 h2 => by unfold Rec.conf; rw [h1, h2]; simp
  -- what the operation looks at is as in the text
  have now : ∀ id, id ∈ (rs i).rd ∨ id ∈ (rs i).wt → getS ms rs S all.length id = (ms i).get id := by
    intro id hid
    rw [getS_past (i := i) _ (by omega) (fun j h1 h2 h3 => ?_), getS_all i (fun j hj => keep id j (by omega)) (fun j hj h3 => ahead j hj (conf1 id j i h3 hid))]
    rcases Nat.lt_or_ge i j with h4 | h4
    · exact behind j h4 h2 (conf2 id i j hid h3)
    · rw [show j = i by omega]; exact hSi
  have nown : (rs i).g = true → nextS ms rs S all.length = (ms i).next := by
    intro hg
    rw [nextS_past (i := i) _ (by omega) (fun j h1 h2 h3 => ?_), nextS_all i (fun j hj => same j (by omega)) (fun j hj h3 => ahead j hj (conf3 j i h3 hg))]
    rcases Nat.lt_or_ge i j with h4 | h4
    · exact behind j h4 h2 (conf3 i j hg h3)
    · rw [show j = i by omega]; exact hSi
  -- and what it leaves
  have then_ : ∀ id, getS ms rs (fun k => if k = i then true else S k) all.length id = if id ∈ (rs i).wt then (ms (i + 1)).get id else getS ms rs S all.length id := by
    intro id
    by_cases hid : id ∈ (rs i).wt
    · rw [if_pos hid, getS_past (i := i + 1) _ (by omega) (fun j h1 h2 h3 => ?_)]
      · simp only [getS]
        rw [if_pos ⟨by simp, hid⟩]
      · rw [if_neg (by omega)]; exact behind j (by omega) h2 (conf2 id i j (.inr hid) h3)
    · rw [if_neg hid]
      refine getS_congr _ fun j hj h3 => ?_
      by_cases e : j = i
      · subst e; exact absurd h3 hid
      · rw [if_neg e]
  have nthen : nextS ms rs (fun k => if k = i then true else S k) all.length = if (rs i).g = true then (ms (i + 1)).next else nextS ms rs S all.length := by
    by_cases hg : (rs i).g = true
    · rw [if_pos hg, nextS_past (i := i + 1) _ (by omega) (fun j h1 h2 h3 => ?_)]
      · simp only [nextS]
        rw [if_pos ⟨by simp, hg⟩]
      · rw [if_neg (by omega)]; exact behind j (by omega) h2 (conf3 i j hg h3)
    · rw [if_neg hg]
      refine nextS_congr _ fun j hj h3 => ?_
      by_cases e : j = i
      · subst e; exact absurd h3 hg
      · rw [if_neg e]
  rcases (hw.step i o hoi).step with ⟨h1, h2, h3, h4⟩ | ⟨h1, h2⟩ | ⟨t, k, r, h1, h2, h3, h4, h5, h6, h7, h8⟩
  · refine .inl (.inr ⟨h1, h2, ?_⟩)
    have e1 : getS ms rs (fun k => if k = i then true else S k) all.length = getS ms rs S all.length := funext fun id => by rw [then_ id, h3, if_neg (by simp)]
    have e2 : nextS ms rs (fun k => if k = i then true else S k) all.length = nextS ms rs S all.length := by rw [nthen, h4, if_neg (by simp)]
    unfold memS
    rw [e1, e2]
  · refine .inl (.inl ⟨h1, h2 _ _ (fun id hid => ?_) (fun hg => ?_) (fun id => ?_) ?_⟩)
    · rw [memS_get]; exact now id hid
    · rw [memS_next]; exact nown hg
    · rw [memS_get, memS_get]; exact then_ id
    · rw [memS_next, memS_next]; exact nthen
  · obtain ⟨hk1, hk2, hk3⟩ := hrefs i k h3
    -- whoever mentions the new box waits for it
    have waits : ∀ j, j < all.length → S j = true → (ment k (vals j) = true ∨ k ∈ (rs j).wt ∨ ∃ id ∈ (rs j).wt, mentB k ((ms (j + 1)).get id) = true) → False := by
      intro j hj hSj hc
      have hr := hw.refs j _ (get j hj)
      unfold okRefs at hr
      rw [List.all_eq_true] at hr
      have hr := hr (i, k) hk1
      have hc' : (ment k (vals j) || (hasN (rs j).wt k || ((rs j).wt.map (ms (j + 1)).get).any (mentB k))) = true := by
        rcases hc with hc | hc | ⟨id, hc, hd⟩
        · rw [hc]; rfl
        · rw [hasN_iff.2 hc]; simp
        · have : ((rs j).wt.map (ms (j + 1)).get).any (mentB k) = true := List.any_eq_true.2 ⟨_, List.mem_map.2 ⟨id, hc, rfl⟩, hd⟩
          rw [this]; simp
      rw [hc'] at hr
      simp only [Bool.not_true, Bool.false_or, Bool.or_eq_true] at hr
      rcases hr with hr | hr
      · have := Nat.eq_of_beq_eq_true hr
        subst this
        rw [hSi] at hSj; cases hSj
      · have := bound_in hcl 3 _ i (fun e he hb => hcl j _ (get j hj) hSj e he hb) hr
        rw [hSi] at this; cases this
    have hms0 : ms 0 = m := hw.mfirst
    refine .inr ⟨t, k, r, h1, h2, h4, h5, hk2, ?_, ?_, fun id => ?_, ?_, fun t' => ?_, fun id B hB => ?_⟩
    · rw [memS_next]
      refine Nat.lt_of_lt_of_le hk3 ?_
      rw [← hms0]
      exact nextS_ge _ fun j hj => (hw.step j _ (get j hj)).le
    · rw [memS_get]
      rcases getS_cases (ms := ms) (rs := rs) (S := S) (id := k) all.length with ⟨j, hj, hSj, hwj, _⟩ | h
      · exact (waits j hj hSj (.inr (.inl hwj))).elim
      · rw [h, hms0]
        cases hx : m.get k with
        | none => rfl
        | some B => have := (hm0 k B hx).1; omega
    · rw [memS_get, memS_get, then_ id, h6]
      by_cases e : id = k
      · subst e; rw [if_pos (by simp), if_pos rfl, h8]
      · rw [if_neg (by simp [e]), if_neg e]
    · rw [memS_next, memS_next, nthen, h7, if_neg (by simp)]
    · have : ∀ n, n ≤ all.length → ment k (cur all fr vals S n t') = false := by
        intro n
        induction n with
        | zero => intro _; exact hfr t' k hk2
        | succ n ih =>
          intro hn
          simp only [cur]
          split
          · rename_i hc
            rcases Bool.eq_false_or_eq_true (ment k (vals n)) with h | h
            · exact (waits n (by omega) hc.1 (.inl h)).elim
            · exact h
          · exact ih (by omega)
      exact this _ (Nat.le_refl _)
    · rw [memS_get] at hB
      rcases getS_cases (ms := ms) (rs := rs) (S := S) (id := id) all.length with ⟨j, hj, hSj, hwj, he⟩ | h
      · rcases Bool.eq_false_or_eq_true (mentB k (some B)) with h | h
        · exact (waits j hj hSj (.inr (.inr ⟨id, hwj, by rw [← he, hB]; exact h⟩))).elim
        · exact h
      · rw [h, hms0] at hB
        exact (hm0 id B hB).2 k hk2
end
end Go.Sx
