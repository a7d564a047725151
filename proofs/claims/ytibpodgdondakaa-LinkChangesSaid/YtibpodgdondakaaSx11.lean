/-
  Sx11: one operation; the operations of a region in their order.
-/
import Derived.Test.YtibpodgdondakaaSx10
set_option linter.unusedSimpArgs false
set_option linter.unusedVariables false
namespace Go.Sx
open Go.RowKit
section
variable {P : Program} {E : Env} {α : Type}

/-- What an operation of the model hands on. -/
def OpPost (P : Program) (Φ : Value → World → Prop) : Result Next → Prop
  | .ok (.value v) w => Φ v w
  | .ok .skip w => Φ Go.undef w
  | .ok (.enter f args) w => Calls P f args w fun e w' => ∃ v, e = .returned v ∧ Φ v w'
  | _ => False

theorem OpPost.mono {Φ Ψ : Value → World → Prop} (h : ∀ v w, Φ v w → Ψ v w) : ∀ {r : Result Next}, OpPost P Φ r → OpPost P Ψ r
  | .ok (.value v) w, k => h v w k
  | .ok .skip w, k => h _ w k
  | .ok (.enter f args) w, k => Calls.mono k fun e w' ⟨v, he, hv⟩ => ⟨v, he, h v w' hv⟩

/-- An operation, by its values: whatever the world. -/
def SemOp (P : Program) (m : Mem) (v : SV) (m' : Mem) (o : Oper) (ev : Operand → SV) : Prop :=
  ∀ w0 R0 ρ w (eb : Operand → Value), MRel w0 R0 ρ w m → (∀ x ∈ o.op.operands, Rep (RO w0 R0 ρ w m) ρ m.next w (ev x) (eb x)) → OpPost P (OpOut w0 R0 ρ w m v m') ((Go.execOp eb o).run P w)

/-- A call, by its values. -/
def SemCall (P : Program) (m : Mem) (v : SV) (m' : Mem) (f : FuncId) (args : List SV) : Prop :=
  ∀ w0 R0 ρ w (vs : List Value), MRel w0 R0 ρ w m → RepL (RO w0 R0 ρ w m) ρ m.next w args vs → OpPost P (OpOut w0 R0 ρ w m v m') ((Go.callFunc f vs.toArray).run P w)

/-- What is asked of the handler of calls (Q: nothing of the memory turns). -/
def CallOK (P : Program) (Q : Bool) (call : CallK α) : Prop :=
  ∀ f args p m (κ : Kont α) (L : α → Prop), (call f args p m κ).holds L → ∃ v p' m', (κ v p' m').holds L ∧ (Q = true → m' = m ∧ ∀ m2, SemCall P m2 v m2 f args) ∧ SemCall P m v m' f args

theorem post_value {Φ : Value → World → Prop} {s : Sem Value} {w : World} {u : Value} {w' : World} (h : s.run P w = .ok u w') (hΦ : Φ u w') : OpPost P Φ ((do pure (Next.value (← s)) : Sem Next).run P w) := by
  simp only [Sem.run_bind, h, Result.andThen_ok, Sem.run_pure]; exact hΦ

theorem ofLeaf_rep (v : Value) (R : Nat → Prop) (ρ : Rho) (n : Nat) (w : World) : Rep R ρ n w (ofLeaf v) v := by
  unfold ofLeaf
  split <;> rfl
theorem ofLeafs_rep (R : Nat → Prop) (ρ : Rho) (n : Nat) (w : World) : ∀ vs : List Value, RepL R ρ n w (vs.map ofLeaf) vs
  | [] => rfl
  | v :: vs => ⟨v, vs, rfl, ofLeaf_rep v R ρ n w, ofLeafs_rep R ρ n w vs⟩
theorem ofVal_rep (v : Value) (R : Nat → Prop) (ρ : Rho) (n : Nat) (w : World) : Rep R ρ n w (ofVal v) v := by
  unfold ofVal
  split
  · rename_i cs
    exact ⟨cs.toList, rfl, ofLeafs_rep R ρ n w _⟩
  · rename_i f a c
    split
    · rename_i ha hc
      refine ⟨[], [], ?_, rfl, rfl⟩
      have h1 : a = #[] := by apply Array.ext'; simpa using ha
      have h2 : c = #[] := by apply Array.ext'; simpa using hc
      rw [h1, h2]
    · rfl
  · exact ofLeaf_rep _ R ρ n w

theorem clash {b : Bool} {p : Prop} (h : b = false) (k : b = true) : p := by rw [h] at k; cases k
/-- What more is known of one operation: where else it does the same, and what it leaves of the memory. -/
structure Extra (P : Program) (Q : Bool) (m : Mem) (v : SV) (m' : Mem) (o : Oper) (ev : Operand → SV) : Prop where
  pure : pureOp o.op = true → ∀ m2, SemOp P m2 v m2 o ev
  shape : shapeOp o.op = true → ∀ m2, Shape m m2 → SemOp P m2 v m2 o ev
  up : Q = true → upOp o.op = true → ∀ m2, Up m m2 → SemOp P m2 v m2 o ev
  store : isStore o.op = true → Shape m m' ∧ Shape m' m
  alloc : isAlloc o.op = true → m.get m.next = none → Up m m'

theorem Extra.ofPure {P : Program} {Q : Bool} {m : Mem} {v : SV} {o : Oper} {ev : Operand → SV} (h1 : shapeOp o.op = false) (h2 : upOp o.op = false) (h3 : isStore o.op = false) (h4 : isAlloc o.op = false) (h : ∀ m2, SemOp P m2 v m2 o ev) : SemOp P m v m o ev ∧ Extra P Q m v m o ev :=
  ⟨h m, fun _ => h, fun k => clash h1 k, fun _ k => clash h2 k, fun k => clash h3 k, fun k => clash h4 k⟩
theorem Extra.none {P : Program} {Q : Bool} {m m' : Mem} {v : SV} {o : Oper} {ev : Operand → SV} (h0 : pureOp o.op = false) (h1 : shapeOp o.op = false) (h2 : upOp o.op = false) (h3 : isStore o.op = false) (h4 : isAlloc o.op = false) : Extra P Q m v m' o ev :=
  ⟨fun k => clash h0 k, fun k => clash h1 k, fun _ k => clash h2 k, fun k => clash h3 k, fun k => clash h4 k⟩
theorem Extra.ofShape {P : Program} {Q : Bool} {m : Mem} {v : SV} {o : Oper} {ev : Operand → SV} (h1 : pureOp o.op = false) (h2 : upOp o.op = false) (h3 : isStore o.op = false) (h4 : isAlloc o.op = false) (h : ∀ m2, Shape m m2 → SemOp P m2 v m2 o ev) : SemOp P m v m o ev ∧ Extra P Q m v m o ev :=
  ⟨h m (Shape.refl m), fun k => clash h1 k, fun _ => h, fun _ k => clash h2 k, fun k => clash h3 k, fun k => clash h4 k⟩
theorem Extra.ofUp {P : Program} {Q : Bool} {m : Mem} {v : SV} {o : Oper} {ev : Operand → SV} (h1 : pureOp o.op = false) (h2 : shapeOp o.op = false) (h3 : isStore o.op = false) (h4 : isAlloc o.op = false) (h : ∀ m2, Up m m2 → SemOp P m2 v m2 o ev) : SemOp P m v m o ev ∧ Extra P Q m v m o ev :=
  ⟨h m (Up.refl m), fun k => clash h1 k, fun k => clash h2 k, fun _ _ => h, fun k => clash h3 k, fun k => clash h4 k⟩

theorem execOp_sound (hE : EOK P E) {Q : Bool} {call : CallK α} (hcall : CallOK P Q call) {ev : Operand → SV} {o : Oper} {p : Plan} {m : Mem} {κ : Kont α} {L : α → Prop} (h : (execOp E call ev o.op p m κ).holds L) :
    ∃ v p' m', (κ v p' m').holds L ∧ (Q = true → quiet E o.op = true → m' = m) ∧ (SemOp P m v m' o ev ∧ Extra P Q m v m' o ev) := by
  obtain ⟨dst, op, ty, pos, after, guard⟩ := o
  cases op <;> dsimp only [execOp] at h <;> try exact h.elim
  case move x =>
    rw [frc_eq] at h
    exact ⟨_, p, m, h, fun _ _ => rfl, Extra.ofPure rfl rfl rfl rfl fun m2 w0 R0 ρ w eb hm hev => OpOut.same hm (hev x (by simp [Op.operands, Call.operands]))⟩
  case assign x =>
    rw [frc_eq] at h
    exact ⟨_, p, m, h, fun _ _ => rfl, Extra.ofPure rfl rfl rfl rfl fun m2 w0 R0 ρ w eb hm hev => OpOut.same hm (hev x (by simp [Op.operands, Call.operands]))⟩
  case pick c a b =>
    split at h
    · rename_i cb hc
      obtain ⟨p', h⟩ := dec_holds h
      rw [frc_eq] at h
      refine ⟨_, p', m, h, fun _ _ => rfl, Extra.ofPure rfl rfl rfl rfl fun m2 w0 R0 ρ w eb hm hev => ?_⟩
      have h1 := hev c (by simp [Op.operands, Call.operands])
      rw [hc] at h1
      have h1' : eb c = .bool cb := h1
      simp only [Go.execOp, h1', asBool, pure_bind, Sem.run_pure]
      refine OpOut.same hm ?_
      cases cb
      · exact hev b (by simp [Op.operands, Call.operands])
      · exact hev a (by simp [Op.operands, Call.operands])
    · exact h.elim
  case alloc t =>
    split at h
    · rename_i r hr
      rw [frcL_eq] at h
      obtain ⟨m', h1, h2⟩ := Mem.push_holds h
      have hok := hE.row _ _ hr
      obtain ⟨z, hz1, hz2, _⟩ := run_zero' hok
      refine ⟨_, p, m', h2, fun _ hq => (by cases hq), ⟨fun w0 R0 ρ w eb hm hev => ?_, ⟨(fun k => by cases k), (fun k => by cases k), (fun _ k => by cases k), (fun k => by cases k), fun _ hn => h1.up hn⟩⟩⟩
      obtain ⟨g1, g2⟩ := hm.alloc (o := .cells z.cells t) h1 0 0 (fun R n' ρ' e' => ⟨_, t, (0, 0), heap_alloc_new w _, unfrozen_zero _, hz2 _ _ _ _⟩)
      refine post_value (u := .pointer (some ⟨w.heap.size, 0, none⟩)) (w' := w.alloc (.cells z.cells t)) ?_ ⟨_, g1, g2, by rw [h1.2]; omega, by rw [upd_same]⟩
      simp [Instr.alloc, hz1, newVar, newRow]
    · exact h.elim
  case box t x =>
    split at h
    · rename_i hone
      rw [frcL_eq] at h
      obtain ⟨m', h1, h2⟩ := Mem.push_holds h
      refine ⟨_, p, m', h2, fun _ hq => (by cases hq), ⟨fun w0 R0 ρ w eb hm hev => ?_, Extra.none rfl rfl rfl rfl rfl⟩⟩
      obtain ⟨k1, k2⟩ := (hev x (by simp [Op.operands, Call.operands])).cells hone
      obtain ⟨g1, g2⟩ := hm.alloc (o := .cells (eb x).cells t) h1 0 0 (fun R n' ρ' e' => ⟨_, t, (0, 0), heap_alloc_new w _, unfrozen_zero _, RepL.mono e' _ _ k1⟩)
      refine post_value (u := .pointer (some ⟨w.heap.size, 0, none⟩)) (w' := w.alloc (.cells (eb x).cells t)) ?_ ⟨_, g1, g2, by rw [h1.2]; omega, by rw [upd_same]⟩
      simp [Instr.box, newVar, newRow]
    · exact h.elim
  case build t parts =>
    obtain ⟨v, h1, h2⟩ := opBuild_sound hE h
    refine ⟨v, p, m, h1, fun _ _ => rfl, Extra.ofPure rfl rfl rfl rfl fun m2 w0 R0 ρ w eb hm hev => ?_⟩
    obtain ⟨u, h3, h4⟩ := h2 m2 w0 R0 ρ w (parts.toList.map fun x => (x.1, eb x.2)) (PR.map ev eb _ fun x hx => hev x.2 (by simp only [Op.operands]; simpa using ⟨x.1, by simpa using hx⟩))
    refine post_value (u := u) (w' := w) ?_ (OpOut.same hm h4)
    rw [← h3]
    congr 2
    apply Array.ext'; simp
  case buildSlice t n parts =>
    obtain ⟨v, m', h1, h2⟩ := opBuildSlice_sound hE h
    refine ⟨v, p, m', h1, fun _ hq => (by cases hq), ⟨fun w0 R0 ρ w eb hm hev => ?_, Extra.none rfl rfl rfl rfl rfl⟩⟩
    obtain ⟨u, w', h3, h4⟩ := h2 w0 R0 ρ w (parts.toList.map fun x => (x.1, eb x.2)) hm (PR.map ev eb _ fun x hx => hev x.2 (by simp only [Op.operands]; simpa using ⟨x.1, by simpa using hx⟩))
    refine post_value (u := u) (w' := w') ?_ h4
    rw [← h3]
    congr 2
    apply Array.ext'; simp
  case load t a =>
    obtain ⟨v, h1, h2⟩ := opLoad_sound hE h
    refine ⟨v, p, m, h1, fun _ _ => rfl, Extra.ofUp rfl rfl rfl rfl fun m2 hup w0 R0 ρ w eb hm hev => ?_⟩
    obtain ⟨u, h3, h4⟩ := h2 m2 hup w0 R0 ρ w _ hm (hev a (by simp [Op.operands, Call.operands]))
    exact post_value h3 (OpOut.same hm h4)
  case store t a x =>
    obtain ⟨m', h1, hsh, h2⟩ := opStore_sound hE h
    refine ⟨_, p, m', h1, fun _ hq => (by cases hq), ⟨fun w0 R0 ρ w eb hm hev => ?_, ⟨(fun k => by cases k), (fun k => by cases k), (fun _ k => by cases k), fun _ => hsh, (fun k => by cases k)⟩⟩⟩
    obtain ⟨w', h3, h4, h5⟩ := h2 w0 R0 ρ w _ _ hm (hev a (by simp [Op.operands, Call.operands])) (hev x (by simp [Op.operands, Call.operands]))
    simp only [Go.execOp, Sem.run_bind, h3, Result.andThen_ok, Sem.run_pure]
    exact ⟨ρ, h4, h5, rfl⟩
  case nilCheck x =>
    split at h <;> first
      | exact h.elim
      | (rename_i heq
         refine ⟨_, p, m, h, fun _ _ => rfl, Extra.ofPure rfl rfl rfl rfl fun m2 w0 R0 ρ w eb hm hev => ?_⟩
         have h1 := hev x (by simp [Op.operands, Call.operands])
         rw [heq] at h1
         first
           | (obtain ⟨_, h2⟩ := h1
              have h3 := hev x (by simp [Op.operands, Call.operands])
              rw [heq] at h3
              simp only [Go.execOp, h2, Sem.run_pure]
              rw [h2] at h3
              exact OpOut.same hm h3)
           | (obtain ⟨b, o, h2, h4⟩ := h1
              have h3 := hev x (by simp [Op.operands, Call.operands])
              rw [heq] at h3
              simp only [Go.execOp, h2, Sem.run_pure]
              rw [h2] at h3
              exact OpOut.same hm h3))
  case binOp op t x y ty' =>
    obtain ⟨v, h1, h2⟩ := opBin_sound hE h
    refine ⟨v, p, m, h1, fun _ _ => rfl, Extra.ofPure rfl rfl rfl rfl fun m2 w0 R0 ρ w eb hm hev => ?_⟩
    obtain ⟨u, h3, h4⟩ := h2 m2 w0 R0 ρ w _ _ x y (hev x (by simp [Op.operands, Call.operands])) (hev y (by simp [Op.operands, Call.operands]))
    exact post_value h3 (OpOut.same hm h4)
  case unOp op t x =>
    obtain ⟨v, h1, h2⟩ := opUn_sound (P := P) h
    refine ⟨v, p, m, h1, fun _ _ => rfl, Extra.ofPure rfl rfl rfl rfl fun m2 w0 R0 ρ w eb hm hev => ?_⟩
    obtain ⟨u, h3, h4⟩ := h2 m2 w0 R0 ρ w _ (hev x (by simp [Op.operands, Call.operands]))
    exact post_value h3 (OpOut.same hm h4)
  case convert s d x =>
    obtain ⟨v, m', h1, hq', h2⟩ := opConv_sound hE h
    refine ⟨v, p, m', h1, fun _ hq => hq' fun r e hr hd => ?_, ⟨fun w0 R0 ρ w eb hm hev => ?_, Extra.none rfl rfl rfl rfl rfl⟩⟩
    · simp only [quiet, hr] at hq
      obtain ⟨de, sz, by_, ze, ty', eg, he⟩ := r
      dsimp only at hd
      subst hd
      cases hq
    · obtain ⟨u, w', h3, h4⟩ := h2 w0 R0 ρ w _ hm (hev x (by simp [Op.operands, Call.operands]))
      exact post_value h3 h4
  case makeFunc fn first cap =>
    cases fn <;> try exact h.elim
    case func f =>
      refine ⟨_, p, m, h, fun _ _ => rfl, Extra.ofPure rfl rfl rfl rfl fun m2 w0 R0 ρ w eb hm hev => ?_⟩
      refine post_value (u := .func (.func f) (first.map eb) (cap.map eb)) (w' := w) (by rfl) (OpOut.same hm ⟨first.toList.map eb, cap.toList.map eb, ?_, RepL.map ev eb _ (fun x hx => hev x (by simp [Op.operands] at hx ⊢; simp [hx])), RepL.map ev eb _ fun x hx => hev x (by simp [Op.operands] at hx ⊢; simp [hx])⟩)
      congr 1 <;> (apply Array.ext'; simp)
  case makeSlice t l c =>
    obtain ⟨v, m', h1, h2⟩ := opMakeSlice_sound hE h
    refine ⟨v, p, m', h1, fun _ hq => (by cases hq), ⟨fun w0 R0 ρ w eb hm hev => ?_, Extra.none rfl rfl rfl rfl rfl⟩⟩
    obtain ⟨u, w', h3, h4⟩ := h2 w0 R0 ρ w _ _ hm (hev l (by simp [Op.operands, Call.operands])) (hev c (by simp [Op.operands, Call.operands]))
    exact post_value h3 h4
  case slice t x lo hi mx =>
    obtain ⟨v, m', h1, hq', h2⟩ := opSlice_sound hE h
    refine ⟨v, p, m', h1, fun _ hq => hq' (by cases mx with | none => rfl | some _ => cases hq), ⟨fun w0 R0 ρ w eb hm hev => ?_, Extra.none rfl rfl rfl rfl rfl⟩⟩
    have ho : ∀ y : Option Operand, (∀ z, y = some z → z ∈ (Op.slice t x lo hi mx).operands) → OptRep (RO w0 R0 ρ w m) ρ m.next w (y.map ev) (y.map eb) := fun y hy => by
      cases y with
      | none => trivial
      | some y => exact hev y (hy y rfl)
    obtain ⟨u, w', h3, h4⟩ := h2 w0 R0 ρ w _ (lo.map eb) (hi.map eb) (mx.map eb) hm (hev x (by simp [Op.operands, Call.operands])) (ho lo fun z hz => by simp [Op.operands, hz]) (ho hi fun z hz => by simp [Op.operands, hz]) (ho mx fun z hz => by simp [Op.operands, hz])
    exact post_value h3 h4
  case fieldAddr s x f =>
    obtain ⟨v, h1, h2⟩ := opFieldAddr_sound hE h
    refine ⟨v, p, m, h1, fun _ _ => rfl, Extra.ofPure rfl rfl rfl rfl fun m2 w0 R0 ρ w eb hm hev => ?_⟩
    obtain ⟨u, h3, h4⟩ := h2 m2 w0 R0 ρ w _ (hev x (by simp [Op.operands, Call.operands]))
    exact post_value h3 (OpOut.same hm h4)
  case field s x f =>
    obtain ⟨v, h1, h2⟩ := opField_sound hE h
    refine ⟨v, p, m, h1, fun _ _ => rfl, Extra.ofPure rfl rfl rfl rfl fun m2 w0 R0 ρ w eb hm hev => ?_⟩
    obtain ⟨u, h3, h4⟩ := h2 m2 w0 R0 ρ w _ (hev x (by simp [Op.operands, Call.operands]))
    exact post_value h3 (OpOut.same hm h4)
  case indexAddr t x ix =>
    obtain ⟨v, h1, h2⟩ := opIndexAddr_sound hE h
    refine ⟨v, p, m, h1, fun _ _ => rfl, Extra.ofShape rfl rfl rfl rfl fun m2 hsh w0 R0 ρ w eb hm hev => ?_⟩
    obtain ⟨u, h3, h4⟩ := h2 m2 hsh w0 R0 ρ w _ _ hm (hev x (by simp [Op.operands, Call.operands])) (hev ix (by simp [Op.operands, Call.operands]))
    exact post_value h3 (OpOut.same hm h4)
  case index t x ix =>
    obtain ⟨v, h1, h2⟩ := opIndex_sound hE h
    refine ⟨v, p, m, h1, fun _ _ => rfl, Extra.ofPure rfl rfl rfl rfl fun m2 w0 R0 ρ w eb hm hev => ?_⟩
    obtain ⟨u, h3, h4⟩ := h2 m2 w0 R0 ρ w _ _ (hev x (by simp [Op.operands, Call.operands])) (hev ix (by simp [Op.operands, Call.operands]))
    exact post_value h3 (OpOut.same hm h4)
  case range t x =>
    split at h
    · rename_i sz by_ ze ty' eg he hr
      obtain ⟨v, m', h1, h2⟩ := opRange_sound (P := P) h
      refine ⟨v, p, m', h1, fun _ hq => (by cases hq), ⟨fun w0 R0 ρ w eb hm hev => ?_, Extra.none rfl rfl rfl rfl rfl⟩⟩
      obtain ⟨u, w', h3, h4⟩ := h2 t w0 R0 ρ w _ (hE.row _ _ hr).und hm (hev x (by simp [Op.operands, Call.operands]))
      exact post_value h3 h4
    · exact h.elim
  case next x isString =>
    cases isString with
    | false => exact h.elim
    | true =>
      obtain ⟨v, p', m', h1, h2⟩ := opNext_sound (P := P) h
      refine ⟨v, p', m', h1, fun _ hq => (by cases hq), ⟨fun w0 R0 ρ w eb hm hev => ?_, Extra.none rfl rfl rfl rfl rfl⟩⟩
      obtain ⟨u, w', h3, h4⟩ := h2 ty w0 R0 ρ w _ hm (hev x (by simp [Op.operands, Call.operands]))
      exact post_value h3 h4
  case extract x i =>
    obtain ⟨v, h1, h2⟩ := opExtract_sound (P := P) h
    refine ⟨v, p, m, h1, fun _ _ => rfl, Extra.ofPure rfl rfl rfl rfl fun m2 w0 R0 ρ w eb hm hev => ?_⟩
    obtain ⟨u, h3, h4⟩ := h2 m2 w0 R0 ρ w _ (hev x (by simp [Op.operands, Call.operands]))
    exact post_value h3 (OpOut.same hm h4)
  case call c =>
    unfold opCall at h
    split at h
    · rename_i b hb
      obtain ⟨v, p', m', h1, hq', hsh, h2⟩ := opBuiltin_sound hE h
      refine ⟨v, p', m', h1, fun _ hq => hq' (fun hb' => by obtain ⟨ca, aa, ta⟩ := c; dsimp only at hb; subst hb hb'; cases hq), ⟨fun w0 R0 ρ w eb hm hev => ?_, ?_⟩⟩
      · have key : ∀ cs, OpPost P (OpOut w0 R0 ρ w m v m') ((Go.builtin b c.argTypes ty cs (c.args.map eb)).run P w) := fun cs => by
          obtain ⟨u, w', h3, h4⟩ := h2 ty cs w0 R0 ρ w (c.args.toList.map eb) hm (RepL.map ev eb _ fun x hx => hev x (by simp [Op.operands, Call.operands] at hx ⊢; simp [hx]))
          have e1 : c.argTypes.toList.toArray = c.argTypes := by simp
          have e2 : (c.args.toList.map eb).toArray = c.args.map eb := by apply Array.ext'; simp
          rw [e1, e2] at h3
          rw [h3]
          exact h4
        simp only [Go.execOp, resolve, hb, pure_bind, invoke]
        exact key _
      · obtain ⟨ca, aa, ta⟩ := c
        dsimp only at hb
        subst hb
        refine ⟨(fun k => by cases k), fun k m2 hsh2 w0 R0 ρ w eb hm hev => ?_, (fun _ k => by cases k), (fun k => by cases k), (fun k => by cases k)⟩
        have hlen : b = .len := by cases b <;> first | rfl | (cases k; done)
        have key : ∀ cs, OpPost P (OpOut w0 R0 ρ w m2 v m2) ((Go.builtin b ta ty cs (aa.map eb)).run P w) := fun cs => by
          obtain ⟨u, w', h3, h4⟩ := hsh hlen m2 hsh2 ty cs w0 R0 ρ w (aa.toList.map eb) hm (RepL.map ev eb _ fun x hx => hev x (by simp [Op.operands, Call.operands] at hx ⊢; simp [hx]))
          have e1 : ta.toList.toArray = ta := by simp
          have e2 : (aa.toList.map eb).toArray = aa.map eb := by apply Array.ext'; simp
          rw [e1, e2] at h3
          rw [h3]
          exact h4
        simp only [Go.execOp, resolve, pure_bind, invoke]
        exact key _
    · rename_i f hf
      split at h
      · rename_i k first cap hk
        obtain ⟨v, p', m', h1, hq', h2⟩ := hcall _ _ _ _ _ _ h
        have key : ∀ m1 m1', SemCall P m1 v m1' k (first ++ (c.args.toList.map ev ++ cap)) → SemOp P m1 v m1' ⟨dst, .call c, ty, pos, after, guard⟩ ev := ?key
        refine ⟨v, p', m', h1, fun hQ _ => (hq' hQ).1, key _ _ h2, ⟨(fun k => by cases k), fun k => ?_, fun hQ _ m2 _ => key _ _ ((hq' hQ).2 m2), (fun k => by cases k), (fun k => by cases k)⟩⟩
        · obtain ⟨ca, aa, ta⟩ := c
          dsimp only at hf
          subst hf
          cases k
        intro m1 m1' h2 w0 R0 ρ w eb hm hev
        have h3 := hev f (by simp [Op.operands, Call.operands, hf])
        rw [hk] at h3
        obtain ⟨vs, us, h4, h5, h6⟩ := h3
        have h7 := h2 w0 R0 ρ w (vs ++ (c.args.toList.map eb ++ us)) hm (h5.append ((RepL.map ev eb _ fun x hx => hev x (by simp [Op.operands, Call.operands] at hx ⊢; simp [hx])).append h6))
        simp only [Go.execOp, resolve, hf, h4, Deferred.ofValue, pure_bind, invoke]
        have e : (vs ++ (c.args.toList.map eb ++ us)).toArray = (⟨vs⟩ : Array Value) ++ c.args.map eb ++ ⟨us⟩ := by apply Array.ext'; simp
        rw [e] at h7
        exact h7
      · exact h.elim
    · exact h.elim

end
end Go.Sx
