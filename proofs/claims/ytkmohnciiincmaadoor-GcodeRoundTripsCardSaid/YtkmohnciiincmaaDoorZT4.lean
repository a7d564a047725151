/-
  SX 28: regions in any order, by what each operation reads and writes: one walk of the text's order serves every order.
  SX 29: the walk of such a region by index; what the memory is when a set of its operations is done.
  Sx15: code and calls: what the evaluator reaches, the machine reaches; a contract out of a tree.
  Sx16: what is known of a program, and how summaries are added one by one.
  Sx17: an argument that can be read as data is a datum of the evaluator.
  Sx18: trees without their memory; facts out of contracts; numbers that fit.
  Sx19: loops: from the head of a loop to the next, in a state of its own form; a law of descent.
  Sx20: a call with loops: states, segments, descent.
-/
import Derived.Test.YtkmohnciiincmaaDoorZT3
import Derived.ProofKit
set_option linter.unusedSimpArgs false
set_option linter.unusedVariables false
namespace Go.Sx
open Go.RowKit
section
variable {P : Program} {E : Env} {α : Type} {L : α → Prop}

/-- What is asked of the handler of calls that make rows. -/
def CallGOK (P : Program) (call : CallK α) : Prop :=
  ∀ f args p m (κ : Kont α) (L : α → Prop), (call f args p m κ).holds L → ∃ v p' m', (κ v p' m').holds L ∧ m.next ≤ m'.next ∧ ∀ (F : List Nat) (m2 m2' : Mem), (∀ id, mentL id args = true → id ∈ F) → (∀ id ∈ F, m2.get id = m.get id) → m2.next = m.next →
    (∀ id, m2'.get id = if id ∈ F ++ List.range' m.next (m'.next - m.next) then m'.get id else m2.get id) → m2'.next = m'.next → SemCall P m2 v m2' f args

theorem mentL_mem {id : Nat} : ∀ {l : List SV} {x : SV}, x ∈ l → ment id x = true → mentL id l = true
  | y :: l, x, h, hm => by
    show (ment id y || mentL id l) = true
    rcases List.mem_cons.1 h with rfl | h
    · rw [hm]; rfl
    · rw [mentL_mem h hm]; simp

theorem idx_mem : ∀ {l : List Nat} {k j : Nat}, idx l k = some j → k ∈ l
  | x :: l, k, j, h => by
    unfold idx at h
    split at h
    · rename_i hx
      rw [Nat.eq_of_beq_eq_true hx]; exact List.mem_cons_self
    · split at h
      · rename_i j' hj
        exact List.mem_cons_of_mem _ (idx_mem hj)
      · cases h
theorem addId_mem {id : Nat} {l : List Nat} : id ∈ addId id l ∧ ∀ k ∈ l, k ∈ addId id l := by
  unfold addId
  split
  · rename_i j hj; exact ⟨idx_mem hj, fun k hk => hk⟩
  · exact ⟨by simp, fun k hk => by simp [hk]⟩
mutual
theorem idsV_mem {k : Nat} : ∀ (x : SV) (l : List Nat), (ment k x = true → k ∈ idsV x l) ∧ ∀ j ∈ l, j ∈ idsV x l
  | .undef, l => ⟨fun h => (by cases h), fun j hj => hj⟩
  | .top, l => ⟨fun h => (by cases h), fun j hj => hj⟩
  | .int _ _, l => ⟨fun h => (by cases h), fun j hj => hj⟩
  | .bool _, l => ⟨fun h => (by cases h), fun j hj => hj⟩
  | .str _, l => ⟨fun h => (by cases h), fun j hj => hj⟩
  | .nilS, l => ⟨fun h => (by cases h), fun j hj => hj⟩
  | .list _ _, l => ⟨fun h => (by cases h), fun j hj => hj⟩
  | .row id, l => ⟨fun h => by rw [← Nat.eq_of_beq_eq_true (show Nat.beq id k = true from h)]; exact addId_mem.1, addId_mem.2⟩
  | .arr id _ _, l => ⟨fun h => by rw [← Nat.eq_of_beq_eq_true (show Nat.beq id k = true from h)]; exact addId_mem.1, addId_mem.2⟩
  | .ptr id _, l => ⟨fun h => by rw [← Nat.eq_of_beq_eq_true (show Nat.beq id k = true from h)]; exact addId_mem.1, addId_mem.2⟩
  | .nilP, l => ⟨fun h => (by cases h), fun j hj => hj⟩
  | .eptr _ _ _ _, l => ⟨fun h => (by cases h), fun j hj => hj⟩
  | .rptr id _ _ _, l => ⟨fun h => by rw [← Nat.eq_of_beq_eq_true (show Nat.beq id k = true from h)]; exact addId_mem.1, addId_mem.2⟩
  | .agg cs, l => idsL_mem cs l
  | .tuple cs, l => idsL_mem cs l
  | .fn _ a b, l => by
    obtain ⟨a1, a2⟩ := idsL_mem (k := k) a l
    obtain ⟨b1, b2⟩ := idsL_mem (k := k) b (idsL a l)
    refine ⟨fun h => ?_, fun j hj => b2 j (a2 j hj)⟩
    have h : (mentL k a || mentL k b) = true := h
    rcases Bool.or_eq_true _ _ ▸ h with h | h
    · exact b2 k (a1 h)
    · exact b1 h
  | .raw _, l => ⟨fun h => (by cases h), fun j hj => hj⟩
theorem idsL_mem {k : Nat} : ∀ (xs : List SV) (l : List Nat), (mentL k xs = true → k ∈ idsL xs l) ∧ ∀ j ∈ l, j ∈ idsL xs l
  | [], l => ⟨fun h => (by cases h), fun j hj => hj⟩
  | x :: xs, l => by
    obtain ⟨a1, a2⟩ := idsV_mem (k := k) x l
    obtain ⟨b1, b2⟩ := idsL_mem (k := k) xs (idsV x l)
    refine ⟨fun h => ?_, fun j hj => b2 j (a2 j hj)⟩
    have h : (ment k x || mentL k xs) = true := h
    rcases Bool.or_eq_true _ _ ▸ h with h | h
    · exact b2 k (a1 h)
    · exact b1 h
end

/-- An operation that reads. -/
theorem reader_at (hE : EOK P E) {call : CallK α} (hcall : CallOK P true call) {ev : Operand → SV} {o : Oper} {p : Plan} {m : Mem} {κ : Kont α} (hk : (pureOp o.op || (shapeOp o.op || isLoad o.op)) = true) (h : (execOp E call ev o.op p m κ).holds L) :
    ∃ v p' m', (κ v p' m').holds L ∧ ∀ m2, (∀ id B, m.get id = some B → m2.get id = some B) → SemOp P m2 v m2 o ev := by
  obtain ⟨v, p', m', h1, _, _, hx⟩ := execOp_sound hE hcall h
  refine ⟨v, p', m', h1, fun m2 hm2 => ?_⟩
  rcases Bool.or_eq_true _ _ ▸ hk with hk | hk
  · exact hx.pure hk m2
  · rcases Bool.or_eq_true _ _ ▸ hk with hk | hk
    · exact hx.shape hk m2 (Up.shape hm2)
    · refine hx.up rfl ?_ m2 hm2
      generalize o.op = op at hk
      cases op <;> first | rfl | cases hk

/-- A store. -/
theorem store_at (hE : EOK P E) {call : CallK α} {ev : Operand → SV} {o : Oper} {p : Plan} {m : Mem} {κ : Kont α} (hk : isStore o.op = true) (h : (execOp E call ev o.op p m κ).holds L) :
    ∃ m', (κ .undef p m').holds L ∧ ∀ (m2 m2' : Mem), (∀ id ∈ footOf ev o.op, m2.get id = m.get id) → (∀ id, m2'.get id = if id ∈ footOf ev o.op then m'.get id else m2.get id) → m2'.next = m2.next → SemOp P m2 .undef m2' o ev := by
  obtain ⟨dst, op, ty, pos, after, guard⟩ := o
  cases op <;> try cases hk
  rename_i t a x
  obtain ⟨m', h1, h2⟩ := opStore_at (E := E) (α := α) (L := L) (κ := κ) h
  exact ⟨m', h1, fun m2 m2' ha hp hn => semOp_of_run hE (call := fun _ _ _ _ _ => .fail 0) noCall_ok (p := p) (h2 m2 m2' p ha hp hn)⟩

open Classical in
/-- A call that is known to hand on this. -/
noncomputable def onlyCall (f : FuncId) (args : List SV) (m m' : Mem) (v : SV) : CallK (SV × Mem) := fun f' args' p m1 κ => if f' = f ∧ args' = args ∧ m1 = m then κ v p m' else .fail 0
theorem onlyCall_ok {f : FuncId} {args : List SV} {m m' : Mem} {v : SV} (h : SemCall P m v m' f args) : CallOK P false (onlyCall f args m m' v) := by
  intro f' args' p m1 κ L hh
  unfold onlyCall at hh
  split at hh
  · rename_i hc
    obtain ⟨rfl, rfl, rfl⟩ := hc
    exact ⟨v, p, m', hh, fun hq => (by cases hq), h⟩
  · exact hh.elim

/-- An operation that makes rows. -/
theorem maker_at (hE : EOK P E) {call : CallK α} (hcall : CallGOK P call) {fr : Fr} {o : Oper} {p : Plan} {m : Mem} {κ : Kont α} (hk : isG E o.op = true) (h : (execOp E call (evalIn fr) o.op p m κ).holds L) :
    ∃ v p' m', (κ v p' m').holds L ∧ m.next ≤ m'.next ∧ ∀ (m2 m2' : Mem), (∀ id ∈ footOf (evalIn fr) o.op, m2.get id = m.get id) → m2.next = m.next → (∀ id, m2'.get id = if id ∈ footOf (evalIn fr) o.op ++ List.range' m.next (m'.next - m.next) then m'.get id else m2.get id) → m2'.next = m'.next → SemOp P m2 v m2' o (evalIn fr) := by
  obtain ⟨dst, op, ty, pos, after, guard⟩ := o
  cases op <;> try cases hk
  rename_i c
  obtain ⟨callee, args, argTypes⟩ := c
  dsimp only at hk h ⊢
  have hops : ∀ x ∈ args.toList, ∀ id, ment id (evalIn fr x) = true → id ∈ footOf (evalIn fr) (.call ⟨callee, args, argTypes⟩) := by
    intro x hx id hid
    refine (idsL_mem (k := id) _ []).1 (mentL_mem (List.mem_map.2 ⟨x, ?_, rfl⟩) hid)
    cases callee <;> simp [Op.operands, Call.operands] <;> simp_all
  cases callee with
  | builtin b =>
    cases b <;> try cases hk
    -- append
    have h : (opBuiltin E .append argTypes.toList (args.toList.map (evalIn fr)) p m κ).holds L := h
    have shape : ∃ t t1 a b, argTypes.toList = [t, t1] ∧ args.toList = [a, b] := by
      rcases hl : args.toList with _ | ⟨a, _ | ⟨b, _ | ⟨c, l⟩⟩⟩ <;> rcases hts : argTypes.toList with _ | ⟨t, _ | ⟨t1, _ | ⟨t2, l'⟩⟩⟩ <;> rw [hl, hts] at h <;> first
        | exact h.elim
        | exact ⟨t, t1, a, b, rfl, rfl⟩
    obtain ⟨t, t1, a, b, hts, hab⟩ := shape
    have hvs : args.toList.map (evalIn fr) = [evalIn fr a, evalIn fr b] := by rw [hab]; rfl
    rw [hts, hvs] at h
    have run : ∀ (h : (opAppend E t (evalIn fr a) (evalIn fr b) p m κ).holds L), (∀ (β : Type) (κ2 : Kont β) (m2 : Mem), (opBuiltin E .append argTypes.toList (args.toList.map (evalIn fr)) .auto m2 κ2) = opAppend E t (evalIn fr a) (evalIn fr b) .auto m2 κ2) → ∃ v p' m', (κ v p' m').holds L ∧ m.next ≤ m'.next ∧ ∀ (m2 m2' : Mem), (∀ id ∈ footOf (evalIn fr) (.call ⟨.builtin .append, args, argTypes⟩), m2.get id = m.get id) → m2.next = m.next → (∀ id, m2'.get id = if id ∈ footOf (evalIn fr) (.call ⟨.builtin .append, args, argTypes⟩) ++ List.range' m.next (m'.next - m.next) then m'.get id else m2.get id) → m2'.next = m'.next → SemOp P m2 v m2' ⟨dst, .call ⟨.builtin .append, args, argTypes⟩, ty, pos, after, guard⟩ (evalIn fr) := by
      intro h he
      obtain ⟨v, p', m', h1, h2, h3⟩ := opAppend_at h
      refine ⟨v, p', m', h1, h2, fun m2 m2' ha hn hp hn' => ?_⟩
      refine semOp_of_run hE (call := fun _ _ _ _ _ => .fail 0) noCall_ok (p := .auto) ?_
      dsimp only [execOp, opCall]
      rw [he]
      exact h3 _ m2 m2' (fun id hid => hid.elim (hops a (by rw [hab]; simp) id) (hops b (by rw [hab]; simp) id)) ha hn hp hn'
    have h : ((match E.row t1 with
      | some { desc := .slice _, .. } => opAppend E t (evalIn fr a) (evalIn fr b) p m κ
      | some { desc := .string, .. } => opAppend E t (evalIn fr a) (evalIn fr b) p m κ
      | _ => .fail 89 : Tree α)).holds L := h
    split at h
    · rename_i e sz by_ ze ty0 eg he hrow
      refine run h fun β κ2 m2 => ?_
      rw [hts, hvs]
      show (match E.row t1 with
        | some { desc := .slice _, .. } => opAppend E t (evalIn fr a) (evalIn fr b) .auto m2 κ2
        | some { desc := .string, .. } => opAppend E t (evalIn fr a) (evalIn fr b) .auto m2 κ2
        | _ => .fail 89 : Tree β) = _
      rw [hrow]
    · rename_i sz by_ ze ty0 eg he hrow
      refine run h fun β κ2 m2 => ?_
      rw [hts, hvs]
      show (match E.row t1 with
        | some { desc := .slice _, .. } => opAppend E t (evalIn fr a) (evalIn fr b) .auto m2 κ2
        | some { desc := .string, .. } => opAppend E t (evalIn fr a) (evalIn fr b) .auto m2 κ2
        | _ => .fail 89 : Tree β) = _
      rw [hrow]
    · exact h.elim
  | value f =>
    cases f <;> try cases hk
    rename_i k
    dsimp only [execOp, opCall, evalIn] at h
    simp only [List.nil_append, List.append_nil] at h
    obtain ⟨v, p', m', h1, h2, h3⟩ := hcall _ _ _ _ _ _ h
    refine ⟨v, p', m', h1, h2, fun m2 m2' ha hn hp hn' => ?_⟩
    have hsem := h3 _ m2 m2' (fun id hid => ?_) ha hn hp hn'
    · refine semOp_of_run hE (onlyCall_ok hsem) (p := .auto) ?_
      dsimp only [execOp, opCall, evalIn]
      simp only [List.nil_append, List.append_nil]
      unfold onlyCall
      rw [if_pos ⟨rfl, rfl, rfl⟩]
      exact ⟨rfl, fun _ => rfl, rfl⟩
    · -- an argument mentions it
      have : ∃ x ∈ args.toList.map (evalIn fr), ment id x = true := by
        revert hid
        generalize args.toList.map (evalIn fr) = l
        induction l with
        | nil => intro h; cases h
        | cons y l ih =>
          intro h
          have h : (ment id y || mentL id l) = true := h
          rcases Bool.or_eq_true _ _ ▸ h with h | h
          · exact ⟨y, List.mem_cons_self, h⟩
          · obtain ⟨x, h1, h2⟩ := ih h
            exact ⟨x, List.mem_cons_of_mem _ h1, h2⟩
      obtain ⟨x, hx, hm⟩ := this
      obtain ⟨a, ha', rfl⟩ := List.mem_map.1 hx
      exact hops a ha' id hm
  | invoke a b => cases hk
end
end Go.Sx
set_option linter.unusedSimpArgs false
set_option linter.unusedVariables false
namespace Go.Sx
open Go.RowKit

theorem tbSet_ex' {β : Type} : ∀ (i : Nat) (t : Tb β) (v : Option β), ∃ t', TbSet t i v t' := by
  intro i
  induction i using Nat.strongRecOn with
  | ind i ih =>
    intro t v
    obtain ⟨l, x, r, hg⟩ : ∃ l x r, ∀ k, t.get k = (Tb.n l x r).get k := by
      cases t with
      | n l x r => exact ⟨l, x, r, fun _ => rfl⟩
      | e =>
        refine ⟨.e, none, .e, fun k => ?_⟩
        cases k with
        | zero => rfl
        | succ j =>
          rw [Tb.get_n_succ]
          by_cases h : j % 2 = 0
          · rw [Tb.pick_even h]; rfl
          · rw [Tb.pick_odd h]; rfl
    cases i with
    | zero =>
      refine ⟨.n l v r, fun k => ?_⟩
      cases k with
      | zero => rfl
      | succ j => rw [if_neg (by omega), hg]; rfl
    | succ i =>
      by_cases hi : i % 2 = 0
      · obtain ⟨l', hl⟩ := ih (i / 2) (by omega) l v
        refine ⟨.n l' x r, fun k => ?_⟩
        cases k with
        | zero => rw [if_neg (by omega), hg]; rfl
        | succ j =>
          rw [hg, Tb.get_n_succ, Tb.get_n_succ]
          by_cases h : j % 2 = 0
          · rw [Tb.pick_even h, Tb.pick_even h, hl]
            by_cases e : j = i
            · subst e; simp
            · rw [if_neg (by omega), if_neg (by omega)]
          · rw [Tb.pick_odd h, Tb.pick_odd h, if_neg (by omega)]
      · obtain ⟨r', hr⟩ := ih (i / 2) (by omega) r v
        refine ⟨.n l x r', fun k => ?_⟩
        cases k with
        | zero => rw [if_neg (by omega), hg]; rfl
        | succ j =>
          rw [hg, Tb.get_n_succ, Tb.get_n_succ]
          by_cases h : j % 2 = 0
          · rw [Tb.pick_even h, Tb.pick_even h, if_neg (by omega)]
          · rw [Tb.pick_odd h, Tb.pick_odd h, hr]
            by_cases e : j = i
            · subst e; simp
            · rw [if_neg (by omega), if_neg (by omega)]

section
variable {P : Program} {E : Env} {α : Type} {L : α → Prop}

theorem hasN_iff {l : List Nat} {k : Nat} : hasN l k = true ↔ k ∈ l := by
  simp only [hasN, List.any_eq_true]
  exact ⟨fun ⟨x, h1, h2⟩ => by rw [← Nat.eq_of_beq_eq_true h2]; exact h1, fun h => ⟨k, h, by simp⟩⟩
theorem meet_iff {l k : List Nat} : meet l k = true ↔ ∃ x, x ∈ l ∧ x ∈ k := by
  simp only [meet, List.any_eq_true]
  exact ⟨fun ⟨x, h1, h2⟩ => ⟨x, h1, hasN_iff.1 h2⟩, fun ⟨x, h1, h2⟩ => ⟨x, h1, hasN_iff.2 h2⟩⟩

/-- One operation of the text, and what it does wherever its boxes are as they are here. -/
structure StepT (P : Program) (all : List Oper) (refs : List (Nat × Nat)) (i : Nat) (o : Oper) (fr : Fr) (m : Mem) (v : SV) (m1 : Mem) (s : Rec) : Prop where
  keep : ∀ id, id ∉ s.wt → m1.get id = m.get id
  le : m.next ≤ m1.next
  same : s.g = false → m1.next = m.next
  step : (gval all fr.get o = some false ∧ v = .undef ∧ s.wt = [] ∧ s.g = false) ∨
    (gval all fr.get o = some true ∧ ∀ m2 m2' : Mem, (∀ id, id ∈ s.rd ∨ id ∈ s.wt → m2.get id = m.get id) → (s.g = true → m2.next = m.next) → (∀ id, m2'.get id = if id ∈ s.wt then m1.get id else m2.get id) → (m2'.next = if s.g = true then m1.next else m2.next) → SemOp P m2 v m2' o (evalIn fr)) ∨
    (∃ t k r, o.op = .alloc t ∧ o.guard = none ∧ idOf refs i = some k ∧ RowOK P t r ∧ v = .ptr k 0 ∧ s.wt = [k] ∧ s.g = false ∧ m1.get k = some (.cells r.zero))

inductive ChainT (P : Program) (all : List Oper) (refs : List (Nat × Nat)) : Nat → List Oper → List Rec → Fr → Mem → Fr → Mem → Prop where
  | nil (i : Nat) (acc : List Rec) (fr : Fr) (m : Mem) : ChainT P all refs i [] acc fr m fr m
  | cons {i : Nat} {o : Oper} {rest : List Oper} {acc : List Rec} {fr fr1 fr' : Fr} {m m1 m' : Mem} {v : SV} {s : Rec} (hs : s.i = i) (hst : StepT P all refs i o fr m v m1 s) (hf : FSet fr o.dst v fr1)
      (hacc : okAcc all o acc s = true) (href : okRefs all refs o i v s.wt (s.wt.map m1.get) = true) (k : ChainT P all refs (i + 1) rest (s :: acc) fr1 m1 fr' m') : ChainT P all refs i (o :: rest) acc fr m fr' m'

theorem finT_holds {refs : List (Nat × Nat)} {all : List Oper} {o : Oper} {acc : List Rec} {ih : OpsT α} {v : SV} {p : Plan} {fr : Fr} {mN : Mem} {s : Rec} (h : (finT refs all o acc ih v p fr mN s).holds L) :
    ∃ fr1, (ih (s :: acc) p fr1 mN).holds L ∧ FSet fr o.dst v fr1 ∧ okAcc all o acc s = true ∧ okRefs all refs o s.i v s.wt (s.wt.map mN.get) = true := by
  unfold finT at h
  split at h
  · rename_i hc
    rw [Bool.and_eq_true] at hc
    obtain ⟨fr1, h1, h2⟩ := putK_holds h
    exact ⟨fr1, h2, h1, hc.2, hc.1⟩
  · exact h.elim

theorem runT_holds (hE : EOK P E) {call callQ callG : CallK α} (hcall : CallOK P false call) (hcallQ : CallOK P true callQ) (hcallG : CallGOK P callG) {refs : List (Nat × Nat)} {all : List Oper} {i : Nat} {o : Oper} {ih : OpsT α} {acc : List Rec} {p : Plan} {fr : Fr} {m : Mem}
    (hg : gval all fr.get o = some true) (h : (runT E call callQ callG refs all i o ih acc p fr m).holds L) :
    ∃ p' fr1 m1 v s, (ih (s :: acc) p' fr1 m1).holds L ∧ s.i = i ∧ StepT P all refs i o fr m v m1 s ∧ FSet fr o.dst v fr1 ∧ okAcc all o acc s = true ∧ okRefs all refs o i v s.wt (s.wt.map m1.get) = true := by
  unfold runT at h
  split at h
  · -- a new variable
    split at h <;> try exact h.elim
    rename_i t hop
    split at h <;> try exact h.elim
    rename_i k hk
    split at h <;> try exact h.elim
    rename_i r hr
    have hgd : o.guard = none ∧ E.row t = some r := by
      split at hr
      · rename_i hgd; exact ⟨hgd, hr⟩
      · cases hr
    rw [frcL_eq] at h
    obtain ⟨mN, h1, h2⟩ := Mem.set_holds h
    obtain ⟨fr1, g1, g2, g3, g4⟩ := finT_holds h2
    refine ⟨p, fr1, mN, _, _, g1, rfl, ⟨fun id hid => ?_, by rw [h1.2]; exact Nat.le_refl _, fun _ => h1.2, .inr (.inr ⟨t, k, r, hop, hgd.1, hk, hE.row _ _ hgd.2, rfl, rfl, rfl, by rw [h1.1 k, if_pos rfl]⟩)⟩, g2, g3, g4⟩
    rw [h1.1 id, if_neg (fun e => hid (by rw [e]; exact List.mem_cons_self))]
  · split at h
    · rename_i hk
      obtain ⟨mF, h1, hn, ha, hb⟩ := only_get h
      obtain ⟨v, p', mx, h2, h3⟩ := reader_at hE hcallQ hk h1
      obtain ⟨fr1, g1, g2, g3, g4⟩ := finT_holds h2
      refine ⟨p', fr1, m, v, _, g1, rfl, ⟨fun _ _ => rfl, Nat.le_refl _, fun _ => rfl, .inr (.inl ⟨hg, fun m2 m2' e1 _ e3 e4 => ?_⟩)⟩, g2, g3, g4⟩
      refine (h3 m2 fun id B hB => ?_).congr (fun _ => rfl) rfl (fun id => by simpa using e3 id) (by simpa using e4)
      by_cases hid : id ∈ footOf (evalIn fr) o.op
      · rw [e1 id (.inl hid), ← ha id hid]; exact hB
      · rw [hb id hid] at hB; cases hB
    · split at h
      · rename_i hk
        obtain ⟨mF, h1, hn, ha, hb⟩ := only_get h
        obtain ⟨mF', h2, h3⟩ := store_at hE hk h1
        obtain ⟨mN, h4, h5, h6⟩ := patch_holds _ _ _ h2
        obtain ⟨fr1, g1, g2, g3, g4⟩ := finT_holds h4
        refine ⟨p, fr1, mN, _, _, g1, rfl, ⟨fun id hid => by rw [h6 id, if_neg hid], by rw [h5]; exact Nat.le_refl _, fun _ => h5, .inr (.inl ⟨hg, fun m2 m2' e1 _ e3 e4 => ?_⟩)⟩, g2, g3, g4⟩
        refine h3 m2 m2' (fun id hid => by rw [e1 id (.inr hid), ha id hid]) (fun id => ?_) (by simpa using e4)
        rw [e3 id]
        by_cases hid : id ∈ footOf (evalIn fr) o.op
        · have hid' : id ∈ (Rec.mk i [] (footOf (evalIn fr) o.op) false).wt := hid
          rw [if_pos hid', if_pos hid, h6 id, if_pos hid]
        · have hid' : id ∉ (Rec.mk i [] (footOf (evalIn fr) o.op) false).wt := hid
          rw [if_neg hid', if_neg hid]
      · split at h
        · rename_i hk
          obtain ⟨mF, h1, hn, ha, hb⟩ := only_get h
          obtain ⟨v, p', mF', h2, hle, h3⟩ := maker_at hE hcallG hk h1
          obtain ⟨mN, h4, h5, h6⟩ := patch_holds _ _ _ h2
          obtain ⟨fr1, g1, g2, g3, g4⟩ := finT_holds h4
          have h5 : mN.next = mF'.next := h5
          have h6 : ∀ id, mN.get id = if id ∈ footOf (evalIn fr) o.op ++ List.range' m.next (mF'.next - m.next) then mF'.get id else m.get id := h6
          refine ⟨p', fr1, mN, v, _, g1, rfl, ⟨fun id hid => ?_, by rw [h5, ← hn]; exact hle, (by intro hc; cases hc), .inr (.inl ⟨hg, fun m2 m2' e1 e2 e3 e4 => ?_⟩)⟩, g2, g3, g4⟩
          · have hid' : id ∉ footOf (evalIn fr) o.op ++ List.range' m.next (mF'.next - m.next) := hid
            rw [h6 id, if_neg hid']
          · have e1 : ∀ id, id ∈ ([] : List Nat) ∨ id ∈ footOf (evalIn fr) o.op ++ List.range' m.next (mF'.next - m.next) → m2.get id = m.get id := e1
            have e3 : ∀ id, m2'.get id = if id ∈ footOf (evalIn fr) o.op ++ List.range' m.next (mF'.next - m.next) then mN.get id else m2.get id := e3
            have e4 : m2'.next = mN.next := by simpa using e4
            refine h3 m2 m2' (fun id hid => by rw [e1 id (.inr (List.mem_append_left _ hid)), ha id hid]) (by rw [e2 rfl, hn]) (fun id => ?_) (by rw [e4, h5])
            rw [e3 id, hn]
            by_cases hid : id ∈ footOf (evalIn fr) o.op ++ List.range' m.next (mF'.next - m.next)
            · rw [if_pos hid, if_pos hid, h6 id, if_pos hid]
            · rw [if_neg hid, if_neg hid]
        · split at h
          · rename_i hd
            obtain ⟨v, p', mc, h1, _, h3, _⟩ := execOp_sound hE hcall h
            split at h1
            · rename_i hv
              rw [frc_eq] at h1
              obtain ⟨fr1, g1, g2, g3, g4⟩ := finT_holds h1
              refine ⟨p', fr1, m, _, _, g1, rfl, ⟨fun _ _ => rfl, Nat.le_refl _, fun _ => rfl, .inr (.inl ⟨hg, fun m2 m2' e1 _ e3 e4 => ?_⟩)⟩, g2, g3, g4⟩
              exact (semOp_free hd hv h3 m2).congr (fun _ => rfl) rfl (fun id => by simpa using e3 id) (by simpa using e4)
            · exact h1.elim
          · exact h.elim

theorem oneOpT_holds (hE : EOK P E) {call callQ callG : CallK α} (hcall : CallOK P false call) (hcallQ : CallOK P true callQ) (hcallG : CallGOK P callG) {refs : List (Nat × Nat)} {all : List Oper} {i : Nat} {o : Oper} {ih : OpsT α} {acc : List Rec} {p : Plan} {fr : Fr} {m : Mem}
    (h : (oneOpT E call callQ callG refs all i o ih acc p fr m).holds L) :
    ∃ p' fr1 m1 v s, (ih (s :: acc) p' fr1 m1).holds L ∧ s.i = i ∧ StepT P all refs i o fr m v m1 s ∧ FSet fr o.dst v fr1 ∧ okAcc all o acc s = true ∧ okRefs all refs o i v s.wt (s.wt.map m1.get) = true := by
  have run : ∀ (p : Plan) (fr2 : Fr), (∀ t, fr2.get t = fr.get t) → fr2.size = fr.size → gval all fr.get o = some true → (runT E call callQ callG refs all i o ih acc p fr2 m).holds L →
      ∃ p' fr1 m1 v s, (ih (s :: acc) p' fr1 m1).holds L ∧ s.i = i ∧ StepT P all refs i o fr m v m1 s ∧ FSet fr o.dst v fr1 ∧ okAcc all o acc s = true ∧ okRefs all refs o i v s.wt (s.wt.map m1.get) = true := by
    intro p fr2 hg hs hgv h
    have hgf : fr2.get = fr.get := funext hg
    have he : evalIn fr2 = evalIn fr := funext fun x => by cases x <;> simp [evalIn, hg]
    obtain ⟨p', fr1, m1, v, s, h1, h2, ⟨k1, k2, k3, k4⟩, h4, h5, h6⟩ := runT_holds hE hcall hcallQ hcallG (by rw [hgf]; exact hgv) h
    rw [he, hgf] at k4
    exact ⟨p', fr1, m1, v, s, h1, h2, ⟨k1, k2, k3, k4⟩, ⟨h4.1.trans hs, fun t ht => by rw [← hs]; exact h4.2.1 t ht, fun t => by rw [h4.2.2 t, hg t]⟩, h5, h6⟩
  have skip : ∀ (p : Plan) (fr2 : Fr), (∀ t, fr2.get t = fr.get t) → fr2.size = fr.size → gval all fr.get o = some false → (putK fr2 o.dst .undef fun fr => ih (⟨i, [], [], false⟩ :: acc) p fr m).holds L →
      ∃ p' fr1 m1 v s, (ih (s :: acc) p' fr1 m1).holds L ∧ s.i = i ∧ StepT P all refs i o fr m v m1 s ∧ FSet fr o.dst v fr1 ∧ okAcc all o acc s = true ∧ okRefs all refs o i v s.wt (s.wt.map m1.get) = true := by
    intro p fr2 hg hs hgv h
    obtain ⟨fr1, h4, h5⟩ := putK_holds h
    refine ⟨p, fr1, m, .undef, ⟨i, [], [], false⟩, h5, rfl, ⟨fun _ _ => rfl, Nat.le_refl _, fun _ => rfl, .inl ⟨hgv, rfl, rfl, rfl⟩⟩, ⟨h4.1.trans hs, fun t ht => by rw [← hs]; exact h4.2.1 t ht, fun t => by rw [h4.2.2 t, hg t]⟩, ?_, ?_⟩
    · unfold okAcc
      rw [List.all_eq_true]
      intro r _
      simp [Rec.conf, meet, hasN]
    · unfold okRefs
      rw [List.all_eq_true]
      intro ck _
      simp [ment, hasN]
  unfold oneOpT at h
  cases hg : o.guard with
  | none =>
    rw [hg] at h
    exact run p fr (fun _ => rfl) rfl (by simp [gval, hg]) h
  | some jw =>
    rw [hg] at h
    dsimp only at h
    rw [nth_eq] at h
    split at h
    · rename_i oj hoj
      split at h
      · rename_i d hd
        have hb : (all[jw.1]?).bind (·.dst) = some d := by rw [hoj]; exact hd
        split at h
        · rename_i b hfr
          obtain ⟨p', h⟩ := dec_holds h
          obtain ⟨fr2, h1, h2⟩ := Fr.set_holds h
          have hget : ∀ t, fr2.get t = fr.get t := fun t => by
            rw [h1.2.2 t]
            by_cases ht : some d = some t
            · injection ht with ht; subst ht; rw [if_pos rfl, hfr]
            · rw [if_neg ht]
          split at h2
          · rename_i hbw
            exact run p' fr2 hget h1.1 (by simp only [gval, hg, hb, hfr]; rw [hbw]) h2
          · rename_i hbw
            exact skip p' fr2 hget h1.1 (by simp only [gval, hg, hb, hfr]; rw [hbw]) h2
        · rename_i hfr
          exact skip p fr (fun _ => rfl) rfl (by simp only [gval, hg, hb, hfr]) h
        · exact h.elim
      · exact h.elim
    · exact h.elim

theorem execOpsT_chain (hE : EOK P E) {call callQ callG : CallK α} (hcall : CallOK P false call) (hcallQ : CallOK P true callQ) (hcallG : CallGOK P callG) {refs : List (Nat × Nat)} {all : List Oper} {k : OpsK α} : ∀ (ops : List Oper) (i : Nat) (acc : List Rec) (p : Plan) (fr : Fr) (m : Mem),
    (execOpsT E call callQ callG refs all ops k i acc p fr m).holds L → ∃ p' fr' m', (k p' fr' m').holds L ∧ ChainT P all refs i ops acc fr m fr' m'
  | [], i, acc, p, fr, m, h => ⟨p, fr, m, h, .nil i acc fr m⟩
  | o :: rest, i, acc, p, fr, m, h => by
    change (oneOpT E call callQ callG refs all i o (execOpsT E call callQ callG refs all rest k (i + 1)) acc p fr m).holds L at h
    obtain ⟨p1, fr1, m1, v, s, h1, h2, h3, h4, h5, h6⟩ := oneOpT_holds hE hcall hcallQ hcallG h
    obtain ⟨p', fr', m', h7, h8⟩ := execOpsT_chain hE hcall hcallQ hcallG rest (i + 1) (s :: acc) p1 fr1 m1 h1
    exact ⟨p', fr', m', h7, .cons h2 h3 h4 h5 h6 h8⟩

/-! ### By index -/

structure WalkT (P : Program) (all : List Oper) (refs : List (Nat × Nat)) (m m' : Mem) (fr fr' : Fr) (frs : Nat → Fr) (vals : Nat → SV) (ms : Nat → Mem) (rs : Nat → Rec) : Prop where
  first : frs 0 = fr
  last : frs all.length = fr'
  mfirst : ms 0 = m
  mlast : ms all.length = m'
  step : ∀ i o, all[i]? = some o → StepT P all refs i o (frs i) (ms i) (vals i) (ms (i + 1)) (rs i)
  next : ∀ i o, all[i]? = some o → FSet (frs i) o.dst (vals i) (frs (i + 1))
  conf : ∀ i j o, all[j]? = some o → i < j → (rs i).conf (rs j) = true → boundTo all 3 o i = true
  refs : ∀ i o, all[i]? = some o → okRefs all refs o i (vals i) (rs i).wt ((rs i).wt.map (ms (i + 1)).get) = true

theorem ChainT.index {all : List Oper} {refs : List (Nat × Nat)} : ∀ {i : Nat} {ops : List Oper} {acc : List Rec} {fr fr' : Fr} {m m' : Mem}, ChainT P all refs i ops acc fr m fr' m' → ∃ (frs : Nat → Fr) (vals : Nat → SV) (ms : Nat → Mem) (rs : Nat → Rec), frs 0 = fr ∧ frs ops.length = fr' ∧ ms 0 = m ∧ ms ops.length = m' ∧
    (∀ j o, ops[j]? = some o → StepT P all refs (i + j) o (frs j) (ms j) (vals j) (ms (j + 1)) (rs j)) ∧ (∀ j o, ops[j]? = some o → FSet (frs j) o.dst (vals j) (frs (j + 1))) ∧
    (∀ j o, ops[j]? = some o → (rs j).i = i + j) ∧ (∀ j o r, ops[j]? = some o → r ∈ acc → r.conf (rs j) = true → boundTo all 3 o r.i = true) ∧ (∀ j k o, ops[k]? = some o → j < k → (rs j).conf (rs k) = true → boundTo all 3 o (i + j) = true) ∧
    (∀ j o, ops[j]? = some o → okRefs all refs o (i + j) (vals j) (rs j).wt ((rs j).wt.map (ms (j + 1)).get) = true) := by
  intro i ops acc fr fr' m m' h
  induction h with
  | nil i acc fr m => exact ⟨fun _ => fr, fun _ => .undef, fun _ => m, fun _ => ⟨0, [], [], false⟩, rfl, rfl, rfl, rfl, fun j o h => by simp at h, fun j o h => by simp at h, fun j o h => by simp at h, fun j o r h => by simp at h, fun j k o h => by simp at h, fun j o h => by simp at h⟩
  | @cons i o rest acc fr fr1 fr' m m1 m' v s hs hst hf hacc href k ih =>
    obtain ⟨frs, vals, ms, rs, h1, h2, h1m, h2m, h3, h4, h5, h6, h7, h8⟩ := ih
    refine ⟨fun i => Nat.casesOn i fr frs, fun i => Nat.casesOn i v vals, fun i => Nat.casesOn i m ms, fun i => Nat.casesOn i s rs, rfl, h2, rfl, h2m, fun j o' hj => ?_, fun j o' hj => ?_, fun j o' hj => ?_, fun j o' r hj hr hc => ?_, fun j k o' hk hjk hc => ?_, fun j o' hj => ?_⟩
    · cases j with
      | zero => simp at hj; subst hj; dsimp only; rw [h1m]; exact hst
      | succ j => have := h3 j o' (by simpa using hj); rwa [show i + (j + 1) = i + 1 + j by omega]
    · cases j with
      | zero => simp at hj; subst hj; dsimp only; rw [h1]; exact hf
      | succ j => exact h4 j o' (by simpa using hj)
    · cases j with
      | zero => exact hs
      | succ j => have := h5 j o' (by simpa using hj); dsimp only; omega
    · cases j with
      | zero =>
        simp at hj; subst hj
        unfold okAcc at hacc
        rw [List.all_eq_true] at hacc
        have := hacc r hr
        have hc : r.conf s = true := hc
        rw [hc] at this
        simpa using this
      | succ j => exact h6 j o' r (by simpa using hj) (List.mem_cons_of_mem _ hr) hc
    · cases k with
      | zero => omega
      | succ k =>
        cases j with
        | zero =>
          have := h6 k o' s (by simpa using hk) List.mem_cons_self hc
          rw [hs] at this; simpa using this
        | succ j =>
          have := h7 j k o' (by simpa using hk) (by omega) hc
          rwa [show i + (j + 1) = i + 1 + j by omega]
    · cases j with
      | zero => simp at hj; subst hj; dsimp only; rw [h1m]; exact href
      | succ j => have := h8 j o' (by simpa using hj); rwa [show i + (j + 1) = i + 1 + j by omega]

theorem ChainT.toWalk {all : List Oper} {refs : List (Nat × Nat)} {m m' : Mem} {fr fr' : Fr} (h : ChainT P all refs 0 all [] fr m fr' m') : ∃ frs vals ms rs, WalkT P all refs m m' fr fr' frs vals ms rs := by
  obtain ⟨frs, vals, ms, rs, h1, h2, h3, h4, h5, h6, h7, h8, h9, h10⟩ := h.index
  refine ⟨frs, vals, ms, rs, h1, h2, h3, h4, fun i o ho => ?_, h6, fun i j o ho hij hc => ?_, fun i o ho => ?_⟩
  · have := h5 i o ho; rwa [Nat.zero_add] at this
  · have := h9 i j o ho hij hc; rwa [Nat.zero_add] at this
  · have := h10 i o ho; rwa [Nat.zero_add] at this

/-! ### The memory once a set is done -/

noncomputable def getS (ms : Nat → Mem) (rs : Nat → Rec) (S : Nat → Bool) : Nat → Nat → Option Box
  | 0, id => (ms 0).get id
  | n + 1, id => if S n = true ∧ id ∈ (rs n).wt then (ms (n + 1)).get id else getS ms rs S n id
noncomputable def nextS (ms : Nat → Mem) (rs : Nat → Rec) (S : Nat → Bool) : Nat → Nat
  | 0 => (ms 0).next
  | n + 1 => if S n = true ∧ (rs n).g = true then (ms (n + 1)).next else nextS ms rs S n

theorem override_ex (f : Nat → Option Box) : ∀ (l : List Nat) (t : Tb Box), ∃ t' : Tb Box, ∀ id, t'.get id = if id ∈ l then f id else t.get id
  | [], t => ⟨t, fun id => by simp⟩
  | i :: l, t => by
    obtain ⟨t1, h1⟩ := tbSet_ex' i t (f i)
    obtain ⟨t2, h2⟩ := override_ex f l t1
    refine ⟨t2, fun id => ?_⟩
    rw [h2 id, h1 id]
    by_cases e : id = i
    · subst e; simp
    · simp [e]
theorem getS_ex (ms : Nat → Mem) (rs : Nat → Rec) (S : Nat → Bool) : ∀ n, ∃ t : Tb Box, ∀ id, t.get id = getS ms rs S n id
  | 0 => ⟨(ms 0).tb, fun id => rfl⟩
  | n + 1 => by
    obtain ⟨t, h⟩ := getS_ex ms rs S n
    by_cases hS : S n = true
    · obtain ⟨t', h'⟩ := override_ex (fun id => (ms (n + 1)).get id) (rs n).wt t
      refine ⟨t', fun id => ?_⟩
      rw [h' id, h id]
      simp only [getS, hS, true_and]
    · exact ⟨t, fun id => by rw [h id]; simp only [getS]; rw [if_neg (fun c => hS c.1)]⟩
open Classical in
noncomputable def mkM (g : Nat → Option Box) (n : Nat) : Mem := if h : ∃ t : Tb Box, ∀ id, t.get id = g id then ⟨n, Classical.choose h⟩ else ⟨n, .e⟩
theorem mkM_next (g : Nat → Option Box) (n : Nat) : (mkM g n).next = n := by unfold mkM; split <;> rfl
theorem mkM_get {g : Nat → Option Box} (n : Nat) (h : ∃ t : Tb Box, ∀ id, t.get id = g id) (id : Nat) : (mkM g n).get id = g id := by
  unfold mkM
  rw [dif_pos h]
  exact Classical.choose_spec h id
noncomputable def memS (all : List Oper) (ms : Nat → Mem) (rs : Nat → Rec) (S : Nat → Bool) : Mem := mkM (getS ms rs S all.length) (nextS ms rs S all.length)
theorem memS_get (all : List Oper) (ms : Nat → Mem) (rs : Nat → Rec) (S : Nat → Bool) (id : Nat) : (memS all ms rs S).get id = getS ms rs S all.length id := mkM_get _ (getS_ex ms rs S _) id
theorem memS_next (all : List Oper) (ms : Nat → Mem) (rs : Nat → Rec) (S : Nat → Bool) : (memS all ms rs S).next = nextS ms rs S all.length := mkM_next _ _

section
variable {ms : Nat → Mem} {rs : Nat → Rec} {S S' : Nat → Bool}
theorem getS_congr {id : Nat} : ∀ n, (∀ j, j < n → id ∈ (rs j).wt → S j = S' j) → getS ms rs S n id = getS ms rs S' n id
  | 0, _ => rfl
  | n + 1, h => by
    simp only [getS]
    rw [getS_congr n fun j hj => h j (by omega)]
    by_cases hw : id ∈ (rs n).wt
    · rw [h n (by omega) hw]
    · rw [if_neg (fun c => hw c.2), if_neg (fun c => hw c.2)]
theorem nextS_congr : ∀ n, (∀ j, j < n → (rs j).g = true → S j = S' j) → nextS ms rs S n = nextS ms rs S' n
  | 0, _ => rfl
  | n + 1, h => by
    simp only [nextS]
    rw [nextS_congr n fun j hj => h j (by omega)]
    by_cases hw : (rs n).g = true
    · rw [h n (by omega) hw]
    · rw [if_neg (fun c => hw c.2), if_neg (fun c => hw c.2)]
theorem getS_past {id i : Nat} : ∀ n, i ≤ n → (∀ j, i ≤ j → j < n → id ∈ (rs j).wt → S j = false) → getS ms rs S n id = getS ms rs S i id
  | 0, h, _ => by rw [Nat.le_zero.1 h]
  | n + 1, h, hS => by
    rcases Nat.lt_or_ge n i with h1 | h1
    · rw [show i = n + 1 by omega]
    · simp only [getS]
      rw [if_neg (fun c => by have := hS n h1 (by omega) c.2; rw [c.1] at this; cases this), getS_past n h1 fun j a b => hS j a (by omega)]
theorem nextS_past {i : Nat} : ∀ n, i ≤ n → (∀ j, i ≤ j → j < n → (rs j).g = true → S j = false) → nextS ms rs S n = nextS ms rs S i
  | 0, h, _ => by rw [Nat.le_zero.1 h]
  | n + 1, h, hS => by
    rcases Nat.lt_or_ge n i with h1 | h1
    · rw [show i = n + 1 by omega]
    · simp only [nextS]
      rw [if_neg (fun c => by have := hS n h1 (by omega) c.2; rw [c.1] at this; cases this), nextS_past n h1 fun j a b => hS j a (by omega)]
theorem getS_all {id : Nat} : ∀ n, (∀ j, j < n → id ∉ (rs j).wt → (ms (j + 1)).get id = (ms j).get id) → (∀ j, j < n → id ∈ (rs j).wt → S j = true) → getS ms rs S n id = (ms n).get id
  | 0, _, _ => rfl
  | n + 1, hk, hS => by
    simp only [getS]
    by_cases hw : id ∈ (rs n).wt
    · rw [if_pos ⟨hS n (by omega) hw, hw⟩]
    · rw [if_neg (fun c => hw c.2), hk n (by omega) hw, getS_all n (fun j hj => hk j (by omega)) fun j hj => hS j (by omega)]
theorem nextS_all : ∀ n, (∀ j, j < n → (rs j).g = false → (ms (j + 1)).next = (ms j).next) → (∀ j, j < n → (rs j).g = true → S j = true) → nextS ms rs S n = (ms n).next
  | 0, _, _ => rfl
  | n + 1, hk, hS => by
    simp only [nextS]
    by_cases hw : (rs n).g = true
    · rw [if_pos ⟨hS n (by omega) hw, hw⟩]
    · rw [if_neg (fun c => hw c.2), hk n (by omega) (by simpa using hw), nextS_all n (fun j hj => hk j (by omega)) fun j hj => hS j (by omega)]
theorem nextS_ge : ∀ n, (∀ j, j < n → (ms j).next ≤ (ms (j + 1)).next) → (ms 0).next ≤ nextS ms rs S n
  | 0, _ => Nat.le_refl _
  | n + 1, h => by
    simp only [nextS]
    split
    · have : ∀ k, k ≤ n + 1 → (ms 0).next ≤ (ms k).next := by
        intro k
        induction k with
        | zero => intro _; exact Nat.le_refl _
        | succ k ih => intro hk; exact Nat.le_trans (ih (by omega)) (h k (by omega))
      exact this _ (Nat.le_refl _)
    · exact nextS_ge n fun j hj => h j (by omega)
theorem getS_cases {id : Nat} : ∀ n, (∃ j, j < n ∧ S j = true ∧ id ∈ (rs j).wt ∧ getS ms rs S n id = (ms (j + 1)).get id) ∨ getS ms rs S n id = (ms 0).get id
  | 0 => .inr rfl
  | n + 1 => by
    simp only [getS]
    split
    · rename_i hc; exact .inl ⟨n, by omega, hc.1, hc.2, rfl⟩
    · rcases getS_cases (id := id) n with ⟨j, h1, h2⟩ | h
      · exact .inl ⟨j, by omega, h2⟩
      · exact .inr h
end

theorem traceT_step {all : List Oper} {refs : List (Nat × Nat)} {m m' : Mem} {fr fr' : Fr} {frs : Nat → Fr} {vals : Nat → SV} {ms : Nat → Mem} {rs : Nat → Rec} (hw : WalkT P all refs m m' fr fr' frs vals ms rs) (n0 : Nat)
    (hrefs : ∀ c k, idOf refs c = some k → (c, k) ∈ refs ∧ n0 ≤ k ∧ k < m.next) (hm0 : ∀ id B, m.get id = some B → id < n0 ∧ ∀ k, n0 ≤ k → mentB k (some B) = false) (hfr : ∀ t k, n0 ≤ k → ment k (fr.get t) = false)
    (S : Nat → Bool) (i : Nat) (o : Oper) (hoi : all[i]? = some o) (hSi : S i = false) (hcl : ∀ (j : Nat) (oj : Oper), all[j]? = some oj → S j = true → ∀ e ∈ oj.after, Region.binds .any e = true → S e.on = true) (hready : ∀ e ∈ o.after, Region.binds .any e = true → S e.on = true) :
    StepOK P all o (frs i) (memS all ms rs S) (vals i) (memS all ms rs fun k => if k = i then true else S k) ∨ AllocAt P o n0 (vals i) (cur all fr vals S all.length) (memS all ms rs S) (memS all ms rs fun k => if k = i then true else S k) := by
  have hil : i < all.length := (List.getElem?_eq_some_iff.1 hoi).1
  have get : ∀ j, j < all.length → all[j]? = some (all.getD j o) := fun j hj => by
    rw [List.getD_eq_getElem?_getD, List.getElem?_eq_getElem hj]; rfl
  have ahead : ∀ j, j < i → (rs j).conf (rs i) = true → S j = true := fun j hj hc => bound_in hcl 3 o j hready (hw.conf j i o hoi hj hc)
  have behind : ∀ j, i < j → j < all.length → (rs i).conf (rs j) = true → S j = false := fun j hj hjl hc => by
    rcases Bool.eq_false_or_eq_true (S j) with h | h
    · have := bound_in hcl 3 _ i (fun e he hb => hcl j _ (get j hjl) h e he hb) (hw.conf i j _ (get j hjl) hj hc)
      rw [hSi] at this; cases this
    · exact h
  have keep : ∀ id j, j < all.length → id ∉ (rs j).wt → (ms (j + 1)).get id = (ms j).get id := fun id j hj hid => (hw.step j _ (get j hj)).keep id hid
  have same : ∀ j, j < all.length → (rs j).g = false → (ms (j + 1)).next = (ms j).next := fun j hj => (hw.step j _ (get j hj)).same
  have conf1 : ∀ id j k, id ∈ (rs j).wt → (id ∈ (rs k).rd ∨ id ∈ (rs k).wt) → (rs j).conf (rs k) = true := fun id j k h1 h2 => by
    unfold Rec.conf
    rcases h2 with h2 | h2
    · rw [meet_iff.2 ⟨id, h1, h2⟩]; rfl
    · rw [meet_iff.2 ⟨id, h1, h2⟩]; simp
  have conf2 : ∀ id j k, (id ∈ (rs j).rd ∨ id ∈ (rs j).wt) → id ∈ (rs k).wt → (rs j).conf (rs k) = true := fun id j k h1 h2 => by
    unfold Rec.conf
    rcases h1 with h1 | h1
    · rw [meet_iff.2 ⟨id, h1, h2⟩]; simp
    · rw [show meet (rs j).wt (rs k).wt = true from meet_iff.2 ⟨id, h1, h2⟩]; simp
  have conf3 : ∀ j k, (rs j).g = true → (rs k).g = true → (rs j).conf (rs k) = true := fun j k h1 h2 => by unfold Rec.conf; rw [h1, h2]; simp
  -- what the operation looks at is as in the text
  have now : ∀ id, id ∈ (rs i).rd ∨ id ∈ (rs i).wt → getS ms rs S all.length id = (ms i).get id := by
    intro id hid
    rw [getS_past (i := i) _ (by omega) (fun j h1 h2 h3 => ?_), getS_all i (fun j hj => keep id j (by omega)) (fun j hj h3 => ahead j hj (conf1 id j i h3 hid))]
    rcases Nat.lt_or_ge i j with h4 | h4
    · exact behind j h4 h2 (conf2 id i j hid h3)
    · rw [show j = i by omega]; exact hSi
  have nown : (rs i).g = true → nextS ms rs S all.length = (ms i).next := by
    intro hg
    rw [nextS_past (i := i) _ (by omega) (fun j h1 h2 h3 => ?_), nextS_all i (fun j hj => same j (by omega)) (fun j hj h3 => ahead j hj (conf3 j i h3 hg))]
    rcases Nat.lt_or_ge i j with h4 | h4
    · exact behind j h4 h2 (conf3 i j hg h3)
    · rw [show j = i by omega]; exact hSi
  -- and what it leaves
  have then_ : ∀ id, getS ms rs (fun k => if k = i then true else S k) all.length id = if id ∈ (rs i).wt then (ms (i + 1)).get id else getS ms rs S all.length id := by
    intro id
    by_cases hid : id ∈ (rs i).wt
    · rw [if_pos hid, getS_past (i := i + 1) _ (by omega) (fun j h1 h2 h3 => ?_)]
      · simp only [getS]
        rw [if_pos ⟨by simp, hid⟩]
      · rw [if_neg (by omega)]; exact behind j (by omega) h2 (conf2 id i j (.inr hid) h3)
    · rw [if_neg hid]
      refine getS_congr _ fun j hj h3 => ?_
      by_cases e : j = i
      · subst e; exact absurd h3 hid
      · rw [if_neg e]
  have nthen : nextS ms rs (fun k => if k = i then true else S k) all.length = if (rs i).g = true then (ms (i + 1)).next else nextS ms rs S all.length := by
    by_cases hg : (rs i).g = true
    · rw [if_pos hg, nextS_past (i := i + 1) _ (by omega) (fun j h1 h2 h3 => ?_)]
      · simp only [nextS]
        rw [if_pos ⟨by simp, hg⟩]
      · rw [if_neg (by omega)]; exact behind j (by omega) h2 (conf3 i j hg h3)
    · rw [if_neg hg]
      refine nextS_congr _ fun j hj h3 => ?_
      by_cases e : j = i
      · subst e; exact absurd h3 hg
      · rw [if_neg e]
  rcases (hw.step i o hoi).step with ⟨h1, h2, h3, h4⟩ | ⟨h1, h2⟩ | ⟨t, k, r, h1, h2, h3, h4, h5, h6, h7, h8⟩
  · refine .inl (.inr ⟨h1, h2, ?_⟩)
    have e1 : getS ms rs (fun k => if k = i then true else S k) all.length = getS ms rs S all.length := funext fun id => by rw [then_ id, h3, if_neg (by simp)]
    have e2 : nextS ms rs (fun k => if k = i then true else S k) all.length = nextS ms rs S all.length := by rw [nthen, h4, if_neg (by simp)]
    unfold memS
    rw [e1, e2]
  · refine .inl (.inl ⟨h1, h2 _ _ (fun id hid => ?_) (fun hg => ?_) (fun id => ?_) ?_⟩)
    · rw [memS_get]; exact now id hid
    · rw [memS_next]; exact nown hg
    · rw [memS_get, memS_get]; exact then_ id
    · rw [memS_next, memS_next]; exact nthen
  · obtain ⟨hk1, hk2, hk3⟩ := hrefs i k h3
    -- whoever mentions the new box waits for it
    have waits : ∀ j, j < all.length → S j = true → (ment k (vals j) = true ∨ k ∈ (rs j).wt ∨ ∃ id ∈ (rs j).wt, mentB k ((ms (j + 1)).get id) = true) → False := by
      intro j hj hSj hc
      have hr := hw.refs j _ (get j hj)
      unfold okRefs at hr
      rw [List.all_eq_true] at hr
      have hr := hr (i, k) hk1
      have hc' : (ment k (vals j) || (hasN (rs j).wt k || ((rs j).wt.map (ms (j + 1)).get).any (mentB k))) = true := by
        rcases hc with hc | hc | ⟨id, hc, hd⟩
        · rw [hc]; rfl
        · rw [hasN_iff.2 hc]; simp
        · have : ((rs j).wt.map (ms (j + 1)).get).any (mentB k) = true := List.any_eq_true.2 ⟨_, List.mem_map.2 ⟨id, hc, rfl⟩, hd⟩
          rw [this]; simp
      rw [hc'] at hr
      simp only [Bool.not_true, Bool.false_or, Bool.or_eq_true] at hr
      rcases hr with hr | hr
      · have := Nat.eq_of_beq_eq_true hr
        subst this
        rw [hSi] at hSj; cases hSj
      · have := bound_in hcl 3 _ i (fun e he hb => hcl j _ (get j hj) hSj e he hb) hr
        rw [hSi] at this; cases this
    have hms0 : ms 0 = m := hw.mfirst
    refine .inr ⟨t, k, r, h1, h2, h4, h5, hk2, ?_, ?_, fun id => ?_, ?_, fun t' => ?_, fun id B hB => ?_⟩
    · rw [memS_next]
      refine Nat.lt_of_lt_of_le hk3 ?_
      rw [← hms0]
      exact nextS_ge _ fun j hj => (hw.step j _ (get j hj)).le
    · rw [memS_get]
      rcases getS_cases (ms := ms) (rs := rs) (S := S) (id := k) all.length with ⟨j, hj, hSj, hwj, _⟩ | h
      · exact (waits j hj hSj (.inr (.inl hwj))).elim
      · rw [h, hms0]
        cases hx : m.get k with
        | none => rfl
        | some B => have := (hm0 k B hx).1; omega
    · rw [memS_get, memS_get, then_ id, h6]
      by_cases e : id = k
      · subst e; rw [if_pos (by simp), if_pos rfl, h8]
      · rw [if_neg (by simp [e]), if_neg e]
    · rw [memS_next, memS_next, nthen, h7, if_neg (by simp)]
    · have : ∀ n, n ≤ all.length → ment k (cur all fr vals S n t') = false := by
        intro n
        induction n with
        | zero => intro _; exact hfr t' k hk2
        | succ n ih =>
          intro hn
          simp only [cur]
          split
          · rename_i hc
            rcases Bool.eq_false_or_eq_true (ment k (vals n)) with h | h
            · exact (waits n (by omega) hc.1 (.inl h)).elim
            · exact h
          · exact ih (by omega)
      exact this _ (Nat.le_refl _)
    · rw [memS_get] at hB
      rcases getS_cases (ms := ms) (rs := rs) (S := S) (id := id) all.length with ⟨j, hj, hSj, hwj, he⟩ | h
      · rcases Bool.eq_false_or_eq_true (mentB k (some B)) with h | h
        · exact (waits j hj hSj (.inr (.inr ⟨id, hwj, by rw [← he, hB]; exact h⟩))).elim
        · exact h
      · rw [h, hms0] at hB
        exact (hm0 id B hB).2 k hk2
end
end Go.Sx
set_option linter.unusedSimpArgs false
set_option linter.unusedVariables false
namespace Go.Sx
open Go.RowKit
section moves
variable {P : Program} {b : Frame} {a : Act} {k : List Item} {cs : List Frame} {w : World}
theorem step_scope {x : Code} : step P (lone (b.at a (.code (.scope x) :: k)) cs w) = .next (lone (b.at a (.code x :: .inScope x :: k)) cs w) :=
  step_lone_go (by simp [stepG, stepG.exec, Frame.at])
theorem step_inScope {x : Code} : step P (lone (b.at a (.inScope x :: k)) cs w) = .next (lone (b.at a k) cs w) :=
  step_lone_go (by simp [stepG, stepG.exec, Frame.at])
end moves
section
variable {P : Program} {E : Env} {α : Type}

/-- From the one state of the evaluator to the other the machine goes, in whatever world. -/
def Reach (P : Program) (items : List Item) (fr : Fr) (m : Mem) (out : Out) : Prop :=
  ∀ w0 R0 ρ w a, SRel w0 R0 ρ w fr m a → ∀ (b : Frame) (cs : List Frame), match out with
    | .ret _ fr' m' => ∃ ρ' w' a' todo, SRel w0 R0 ρ' w' fr' m' a' ∧ MExt w0 R0 ρ w m ρ' w' m' ∧ Steps P (lone (b.at a items) cs w) (lone { b.at a' todo with mode := .returning } cs w')
    | .stop items' fr' m' => ∃ ρ' w' a', SRel w0 R0 ρ' w' fr' m' a' ∧ MExt w0 R0 ρ w m ρ' w' m' ∧ Steps P (lone (b.at a items) cs w) (lone (b.at a' items') cs w')

theorem Reach.trans {items items' : List Item} {fr fr' : Fr} {m m' : Mem} {out : Out} (h : Reach P items fr m (.stop items' fr' m')) (k : Reach P items' fr' m' out) : Reach P items fr m out := by
  intro w0 R0 ρ w a hs b cs
  obtain ⟨ρ1, w1, a1, h1, h2, h3⟩ := h w0 R0 ρ w a hs b cs
  have h4 := k w0 R0 ρ1 w1 a1 h1 b cs
  cases out with
  | ret p fr2 m2 =>
    obtain ⟨ρ2, w2, a2, todo, g1, g2, g3⟩ := h4
    exact ⟨ρ2, w2, a2, todo, g1, h2.trans g2, h3.trans g3⟩
  | stop it fr2 m2 =>
    obtain ⟨ρ2, w2, a2, g1, g2, g3⟩ := h4
    exact ⟨ρ2, w2, a2, g1, h2.trans g2, h3.trans g3⟩

/-- One step of the machine that leaves the frame and the world alone. -/
theorem Reach.step {items items' : List Item} {fr : Fr} {m : Mem} (h : ∀ (b : Frame) (a : Act) cs w, (∀ x, ∃ R ρ n, Rep R ρ n w (evalIn fr x) (a.eval x)) → Go.step P (lone (b.at a items) cs w) = .next (lone (b.at a items') cs w)) : Reach P items fr m (.stop items' fr m) :=
  fun w0 R0 ρ w a hs b cs => ⟨ρ, w, a, hs, Ext.refl _ _ _ _, .one (h b a cs w fun x => ⟨_, _, _, hs.2.1.eval x⟩)⟩

theorem Reach.refl (items : List Item) (fr : Fr) (m : Mem) : Reach P items fr m (.stop items fr m) :=
  fun w0 R0 ρ w a hs b cs => ⟨ρ, w, a, hs, Ext.refl _ _ _ _, Steps.refl _ _⟩

/-- What is shown of the evaluator at some fuel. -/
def ExecOK (P : Program) (ih : ExecK α) : Prop :=
  ∀ items p fr m (κ : Out → Tree α) (L : α → Prop), (ih items p fr m κ).holds L → ∃ out, (κ out).holds L ∧ Reach P items fr m out

theorem callFunc_enter {f : FuncId} {fn : Func} {body : Code} (hf : P.funcs[f]? = some fn) (hb : fn.body = some body) (hn : (fn.name == "runtime.NumGoroutine") = false) (args : Array Value) (w : World) : (Go.callFunc f args).run P w = .ok (.enter f args) w := by
  simp only [Go.callFunc, Sem.run_bind, run_program, Result.andThen_ok, hf, hn, Bool.false_eq_true, if_false, hb, Option.isNone_some, Sem.run_pure]

/-- A call whose body is reached to its end. -/
theorem calls_of_reach {f : FuncId} {fn : Func} {body : Code} (hf : P.funcs[f]? = some fn) (hb : fn.body = some body) {fr fr' : Fr} {m m' : Mem} {p : Plan} (hr : Reach P [.code body] fr m (.ret p fr' m')) {v : SV}
    (hv : ∀ w0 R0 ρ w a, SRel w0 R0 ρ w fr' m' a → ∃ u, (Go.results fn a.tmps).run P w = .ok u w ∧ Rep (RO w0 R0 ρ w m') ρ m'.next w v u) {w0 : World} {R0 : Nat → Prop} {ρ : Rho} {w : World} {vs : List Value} (hm : MRel w0 R0 ρ w m)
    (hfr : FRel (RO w0 R0 ρ w m) ρ m.next w fr (vs.toArray ++ Array.replicate (fn.ntmps - vs.toArray.size) Go.undef)) :
    Calls P f vs.toArray w fun e w' => ∃ u, e = .returned u ∧ ∃ ρ', MRel w0 R0 ρ' w' m' ∧ MExt w0 R0 ρ w m ρ' w' m' ∧ Rep (RO w0 R0 ρ' w' m') ρ' m'.next w' v u := by
  intro cs
  let b : Frame := { (default : Frame) with fn := f, kind := .normal }
  have henter : Frame.enter P f vs.toArray .normal = b.at { tmps := vs.toArray ++ Array.replicate (fn.ntmps - vs.toArray.size) Go.undef, defers := [] } [.code body] := by
    simp [Frame.enter, Frame.at, hf, hb, b]
  obtain ⟨ρ', w', a', todo, g1, g2, g3⟩ := hr w0 R0 ρ w { tmps := vs.toArray ++ Array.replicate (fn.ntmps - vs.toArray.size) Go.undef, defers := [] } ⟨hm, hfr, rfl⟩ b cs
  obtain ⟨u, h1, h2⟩ := hv w0 R0 ρ' w' a' g1
  refine ⟨.returned u, w', _, ⟨u, rfl, ρ', g1.1, g2, h2⟩, by rw [henter]; exact g3, rfl, rfl, g1.2.2, rfl, fn, hf, h1⟩

/-! ### Calls that are handed rows as data -/

mutual
theorem Rep.noRef {R R' : Nat → Prop} {ρ : Rho} {n : Nat} {w : World} : ∀ (x : SV) (v : Value), Go.Sx.noRef x = true → Rep R ρ n w x v → Rep R' ρ n w x v
  | .undef, _, _, h => h
  | .top, _, _, _ => trivial
  | .int _ _, _, _, h => h
  | .bool _, _, _, h => h
  | .str _, _, _, h => h
  | .nilS, _, _, h => h
  | .list _ _, _, hd, _ => by cases hd
  | .row _, _, _, h => h
  | .arr _ _ _, _, hd, _ => by cases hd
  | .ptr _ _, _, hd, _ => by cases hd
  | .nilP, _, _, h => h
  | .eptr _ _ _ _, _, hd, _ => by cases hd
  | .rptr _ _ _ _, _, hd, _ => by cases hd
  | .agg cs, v, hd, h => by
    obtain ⟨vs, h1, h2⟩ := h
    exact ⟨vs, h1, RepL.noRef cs vs hd h2⟩
  | .tuple cs, v, hd, h => by
    obtain ⟨vs, h1, h2⟩ := h
    exact ⟨vs, h1, RepL.noRef cs vs hd h2⟩
  | .fn _ _ _, _, hd, _ => by cases hd
  | .raw _, _, hd, _ => by cases hd
theorem RepL.noRef {R R' : Nat → Prop} {ρ : Rho} {n : Nat} {w : World} : ∀ (xs : List SV) (vs : List Value), Go.Sx.noRefL xs = true → RepL R ρ n w xs vs → RepL R' ρ n w xs vs
  | [], _, _, h => h
  | x :: xs, vs, hd, h => by
    obtain ⟨u, us, h1, h2, h3⟩ := h
    have hd : (Go.Sx.noRef x && Go.Sx.noRefL xs) = true := hd
    rw [Bool.and_eq_true] at hd
    exact ⟨u, us, h1, Rep.noRef x u hd.1 h2, RepL.noRef xs us hd.2 h3⟩
end

theorem RepD.flatT {R R' : Nat → Prop} {w : World} : ∀ (t : Ty) (x : t.T) (vs : List Value), t.flatT = true → RepD R w t x vs → RepD R' w t x vs
  | .unit, _, _, _, h => h
  | .int _, _, _, _, h => h
  | .bool, _, _, _, h => h
  | .str, _, _, _, h => h
  | .list _, _, _, hd, _ => by cases hd
  | .pair a b, x, vs, hd, h => by
    obtain ⟨v1, v2, h1, h2, h3⟩ := h
    have hd : (a.flatT && b.flatT) = true := hd
    rw [Bool.and_eq_true] at hd
    exact ⟨v1, v2, h1, RepD.flatT a _ _ hd.1 h2, RepD.flatT b _ _ hd.2 h3⟩

theorem Tb.get_filt {β : Type} (f : β → Bool) : ∀ (t : Tb β) (i : Nat), (t.filt f).get i = match t.get i with
    | some x => match f x with
      | true => some x
      | false => none
    | none => none
  | .e, i => rfl
  | .n l v r, 0 => rfl
  | .n l v r, j + 1 => by
    show (Tb.n (l.filt f) _ (r.filt f)).get (j + 1) = _
    rw [Tb.get_n_succ, Tb.get_n_succ]
    by_cases h : j % 2 = 0
    · rw [Tb.pick_even h, Tb.pick_even h, Tb.get_filt f l]
    · rw [Tb.pick_odd h, Tb.pick_odd h, Tb.get_filt f r]
theorem flats_get {m : Mem} {id : Nat} {B : Box} (h : m.flats.get id = some B) : m.get id = some B ∧ flatB B = true := by
  unfold Mem.flats Mem.get at h
  dsimp only at h
  rw [Tb.get_filt] at h
  split at h
  · rename_i x hx
    split at h
    · rename_i hf
      injection h with h; subst h
      exact ⟨hx, hf⟩
    · cases h
  · cases h
theorem MRel.flats {w0 : World} {R0 R1 : Nat → Prop} {ρ : Rho} {w : World} {m : Mem} (h : MRel w0 R0 ρ w m) : MRel w0 R1 ρ w m.flats := by
  refine ⟨h.below, fun id B hB => h.lt id B (flats_get hB).1, fun id B hB => h.lo id B (flats_get hB).1, fun id B hB => h.hi id B (flats_get hB).1, fun id id' B B' hB hB' => h.inj id id' B B' (flats_get hB).1 (flats_get hB').1, fun id B hB => ?_⟩
  obtain ⟨h1, h2⟩ := flats_get hB
  cases B with
  | cells cs => cases h2
  | iter s p => cases h2
  | rows t l =>
    obtain ⟨b1, b2, b3⟩ := h.box id _ h1
    refine ⟨b1, b2, fun h0 => ?_⟩
    obtain ⟨arr, e, fr, k1, k2, k3, k4⟩ := b3 h0
    refine ⟨arr, e, fr, k1, k2, k3, fun i hi => ?_⟩
    obtain ⟨cs, c1, c2, c3⟩ := k4 i hi
    exact ⟨cs, c1, c2, RepD.flatT t _ _ h2 c3⟩

theorem argR_rep {w0 : World} {R0 : Nat → Prop} {ρ : Rho} {w : World} {m : Mem} (h : MRel w0 R0 ρ w m) {R : Nat → Prop} (hR : ∀ b, b < w.heap.size → R b) : ∀ {xs : List SV} {vs : List Value}, RepL (RO w0 R0 ρ w m) ρ m.next w xs vs → dataL (xs.map (argR m)) = true → RepL R ρ 0 w (xs.map (argR m)) vs
  | [], _, hr, _ => hr
  | x :: xs, vs, hr, hd => by
    obtain ⟨u, us, rfl, r1, r2⟩ := hr
    have hd : dataL (argR m x :: xs.map (argR m)) = true := hd
    rw [dataL_cons] at hd
    cases hx : (argR m x).data with
    | false => rw [hx] at hd; cases hd
    | true =>
      rw [hx] at hd
      refine ⟨u, us, rfl, ?_, argR_rep h hR r2 hd⟩
      have hlt : ∀ b, RO w0 R0 ρ w m b → R b := fun b hb => hR b (h.ro_lt hb)
      have plain : argR m x = x → Rep R ρ 0 w (argR m x) u := fun e => by
        rw [e] at hx ⊢
        exact Rep.data hlt x u hx r1
      cases x with
      | row id =>
        cases hg : m.get id with
        | none => exact plain (by simp only [argR, hg])
        | some B =>
          cases B with
          | cells cs => exact plain (by simp only [argR, hg])
          | iter s p => exact plain (by simp only [argR, hg])
          | rows t l =>
            have e : argR m (.row id) = .list t l := by simp only [argR, hg]
            rw [e]
            obtain ⟨_, a, hu, ha⟩ := r1
            obtain ⟨b1, b2, hp⟩ := h.box id _ hg
            refine ⟨a, (ρ id).2.2, by rw [hu, b1], b2, fun h0 => ?_⟩
            have h0 : 0 < (ρ id).2.2 := Nat.lt_of_lt_of_le h0 b2
            obtain ⟨arr, e, fr, k1, k2, k3, k4⟩ := hp h0
            refine ⟨(ρ id).1, 0, ha h0, hR _ (h.hi id _ hg h0), fun i hi => ?_⟩
            obtain ⟨cs, c1, c2, c3⟩ := k4 i hi
            refine ⟨cs, c1, fun j hj => ?_, RepD.mono (fun b hb => ⟨hlt b hb, rfl⟩) _ _ _ c3⟩
            rw [cell_of_row w _ _ arr e fr k1, Nat.zero_add]
            exact c2 j hj
      | _ => exact plain rfl

theorem SemCall.congr {m m2 m' m2' : Mem} {v : SV} {f : FuncId} {args : List SV} (hg : ∀ id, m2.get id = m.get id) (hn : m2.next = m.next) (hg' : ∀ id, m2'.get id = m'.get id) (hn' : m2'.next = m'.next) (h : SemCall P m v m' f args) : SemCall P m2 v m2' f args := by
  intro w0 R0 ρ w vs hm hvs
  have h1 := h w0 R0 ρ w vs (hm.congr (fun id => (hg id).symm) hn.symm) (by rw [← RO.congr hg, ← hn]; exact hvs)
  exact OpPost.mono (fun u w' hu => hu.congr hg hn hg' hn') h1

theorem adopt_self {v : SV} {mc m : Mem} {k : SV → Mem → Tree α} {L : α → Prop} (h : (adopt v mc m k).holds L) : ∃ v' m', (k v' m').holds L ∧ ∀ (δ : Type) (k2 : SV → Mem → Tree δ), adopt v mc m k2 = k2 v' m' := by
  obtain ⟨v', _, _, _, _, ha⟩ := adopt_at h
  obtain ⟨m', _, _, hk⟩ := ha m rfl
  rw [hk] at h
  exact ⟨v', m', h, hk⟩

theorem callR_core (hE : EOK P E) {ih : ExecK α} (hih : ExecOK P ih) {f : FuncId} {args : List SV} {p : Plan} {m : Mem} {κ : Kont α} {L : α → Prop} (h : (callR E ih f args p m κ).holds L) :
    ∃ v0 mc p', (adopt v0 mc m fun v m => κ v p' m).holds L ∧ ∀ m2 v' m2', args.map (argR m2) = args.map (argR m) → (adopt v0 mc m2 fun v m => .leaf (v, m)).holds (fun y => y = (v', m2')) → SemCall P m2 v' m2' f args := by
  unfold callR at h
  split at h
  · rename_i fn hfn
    have hf := hE.fn f fn hfn
    split at h
    · rename_i body hb
      split at h
      · rename_i hn
        split at h
        · rename_i hd
          obtain ⟨fr, h1, h2, h3, h4⟩ := make_holds h
          obtain ⟨out, h5, h6⟩ := hih _ _ _ _ _ _ h1
          cases out with
          | stop it fr' m' => exact h5.elim
          | ret p' fr' mc =>
            dsimp only at h5
            obtain ⟨v, h7, h8⟩ := results_holds hE h5
            split at h7
            · rename_i hnr
              refine ⟨v, mc.flats, p', h7, fun m2 v' m2' he ha w0 R0 ρ w vs hm hvs => ?_⟩
              obtain ⟨v1, m1, hl, hsem⟩ := adopt_holds ha
              injection hl with e1 e2
              subst e1 e2
              rw [callFunc_enter hf hb hn]
              have o1 : MRel w (fun b => b < w.heap.size) ρ w ⟨0, .e⟩ := ⟨⟨Below.refl _ _, hm.gnd⟩, fun id B h => (by cases h), fun id B h => (by cases h), fun id B h => (by cases h), fun id id' B B' h => (by cases h), fun id B h => (by cases h)⟩
              have hvs' := argR_rep hm (R := RO w (fun b => b < w.heap.size) ρ w ⟨0, .e⟩) (fun b hb => .inl ⟨hb, hb⟩) hvs (by rw [he]; exact hd)
              rw [he] at hvs'
              have hfr := frame_rel h2 h3 h4 hvs'
              refine Calls.mono (calls_of_reach hf hb h6 h8 o1 hfr) fun e w' ⟨u, he, ρ', g1, g2, g3⟩ => ⟨u, he, ?_⟩
              exact hsem w0 R0 ρ w ρ' w' u hm g1.flats (Rep.noRef v u hnr g3)
            · exact h7.elim
        · exact h.elim
      · exact h.elim
    · exact h.elim
  · exact h.elim

theorem callD_core (hE : EOK P E) {ih : ExecK α} (hih : ExecOK P ih) {f : FuncId} {args : List SV} {p : Plan} {m : Mem} {κ : Kont α} {L : α → Prop} (h : (callD E ih f args p m κ).holds L) :
    ∃ v0 mc p', (adopt v0 mc m fun v m => κ v p' m).holds L ∧ ∀ m2 v' m2', (adopt v0 mc m2 fun v m => .leaf (v, m)).holds (fun y => y = (v', m2')) → SemCall P m2 v' m2' f args := by
  unfold callD at h
  split at h
  · rename_i fn hfn
    have hf := hE.fn f fn hfn
    split at h
    · rename_i body hb
      split at h
      · rename_i hn
        split at h
        · rename_i hd
          obtain ⟨fr, h1, h2, h3, h4⟩ := make_holds h
          obtain ⟨out, h5, h6⟩ := hih _ _ _ _ _ _ h1
          cases out with
          | stop it fr' m' => exact h5.elim
          | ret p' fr' mc =>
            dsimp only at h5
            obtain ⟨v, h7, h8⟩ := results_holds hE h5
            refine ⟨v, mc, p', h7, fun m2 v' m2' ha w0 R0 ρ w vs hm hvs => ?_⟩
            obtain ⟨v1, m1, hl, hsem⟩ := adopt_holds ha
            injection hl with e1 e2
            subst e1 e2
            rw [callFunc_enter hf hb hn]
            obtain ⟨o1, o2⟩ := own_mem hm ρ
            have hfr := frame_rel h2 h3 h4 (RepL.data (R' := RO w (RO w0 R0 ρ w m2) ρ w ⟨0, .e⟩) (ρ' := ρ) (n' := 0) o2 args vs hd hvs)
            refine Calls.mono (calls_of_reach hf hb h6 h8 o1 hfr) fun e w' ⟨u, he, ρ', g1, g2, g3⟩ => ⟨u, he, ?_⟩
            exact hsem w0 R0 ρ w ρ' w' u hm g1 g3
        · exact h.elim
      · exact h.elim
    · exact h.elim
  · exact h.elim

theorem callG_ok (hE : EOK P E) {ih : ExecK α} (hih : ExecOK P ih) : CallGOK P (callG E ih) := by
  have fin : ∀ (f : FuncId) (args : List SV) (v0 : SV) (mc m : Mem) (p' : Plan) (κ : Kont α) (L : α → Prop), (adopt v0 mc m fun v m => κ v p' m).holds L →
      (∀ m2 v' m2', args.map (argR m2) = args.map (argR m) → (adopt v0 mc m2 fun v m => .leaf (v, m)).holds (fun y => y = (v', m2')) → SemCall P m2 v' m2' f args) →
      ∃ v p' m', (κ v p' m').holds L ∧ m.next ≤ m'.next ∧ ∀ (F : List Nat) (m2 m2' : Mem), (∀ id, mentL id args = true → id ∈ F) → (∀ id ∈ F, m2.get id = m.get id) → m2.next = m.next →
        (∀ id, m2'.get id = if id ∈ F ++ List.range' m.next (m'.next - m.next) then m'.get id else m2.get id) → m2'.next = m'.next → SemCall P m2 v m2' f args := by
    intro f args v0 mc m p' κ L h hsem
    obtain ⟨v, m', h1, h2, h3, h4⟩ := adopt_at h
    refine ⟨v, p', m', h1, h2, fun F m2 m2' hF ha hn hp hn' => ?_⟩
    obtain ⟨m3, n3, e3, k3⟩ := h4 m2 hn
    have hargs : args.map (argR m2) = args.map (argR m) := by
      refine List.map_congr_left fun x hx => ?_
      cases x <;> try rfl
      rename_i id
      have := ha id (hF id (mentL_mem hx (by simp [ment])))
      simp only [argR, this]
    refine (hsem m2 v m3 hargs (by rw [k3]; exact rfl)).congr (fun _ => rfl) rfl (fun id => ?_) (by rw [hn', n3])
    rw [hp id, e3 id]
    simp only [List.mem_append, mem_range1]
    by_cases c : m.next ≤ id ∧ id < m'.next
    · rw [if_pos c, if_pos (.inr ⟨c.1, by omega⟩)]
    · rw [if_neg c]
      by_cases c2 : id ∈ F
      · rw [if_pos (.inl c2), h3 id c, ← ha id c2]
      · rw [if_neg (fun d => d.elim c2 fun d => c ⟨d.1, by omega⟩)]
  intro f args p m κ L h
  unfold callG at h
  split at h
  · exact h.elim
  · split at h
    · exact h.elim
    · split at h
      · obtain ⟨v0, mc, p', h1, h2⟩ := callR_core hE hih h
        exact fin f args v0 mc m p' κ L h1 h2
      · obtain ⟨v0, mc, p', h1, h2⟩ := callD_core hE hih h
        exact fin f args v0 mc m p' κ L h1 fun m2 v' m2' _ => h2 m2 v' m2'

theorem callIn_ok (hE : EOK P E) (hS : SumOK P E) {ih : ExecK α} (hih : ExecOK P ih) : CallOK P false (callIn E ih) := by
  intro f args p m κ L h
  unfold callIn at h
  split at h
  · rename_i s hs
    split at h
    · rename_i t ht
      obtain ⟨v, p', h1, h2⟩ := bindT_holds t p h (hS.1 f s args t hs ht)
      exact ⟨v, p', m, h1, fun hq => (by cases hq), h2 m⟩
    · exact h.elim
  · split at h
    · rename_i s hs
      split at h
      · rename_i t ht
        obtain ⟨x, p', h1, h2⟩ := bindM_holds t p h (hS.2 f s args m t hs ht)
        exact ⟨x.1, p', x.2, h1, fun hq => (by cases hq), h2⟩
      · exact h.elim
    split at h
    · obtain ⟨v0, mc, p', h1, h2⟩ := callR_core hE hih h
      obtain ⟨v', m', h3, h4⟩ := adopt_self h1
      exact ⟨v', p', m', h3, fun hq => (by cases hq), h2 m v' m' rfl (by rw [h4]; exact rfl)⟩
    split at h
    · rename_i fn hfn
      have hf := hE.fn f fn hfn
      split at h
      · rename_i body hb
        split at h
        · rename_i hn
          split at h
          · rename_i hd
            obtain ⟨fr, h1, h2, h3, h4⟩ := make_holds h
            obtain ⟨out, h5, h6⟩ := hih _ _ _ _ _ _ h1
            cases out with
            | stop it fr' m' => exact h5.elim
            | ret p' fr' mc =>
              dsimp only at h5
              obtain ⟨v, h7, h8⟩ := results_holds hE h5
              obtain ⟨v', m', h9, h10⟩ := adopt_holds h7
              refine ⟨v', p', m', h9, fun hq => (by cases hq), fun w0 R0 ρ w vs hm hvs => ?_⟩
              rw [callFunc_enter hf hb hn]
              obtain ⟨o1, o2⟩ := own_mem hm ρ
              have hfr := frame_rel h2 h3 h4 (RepL.data (R' := RO w (RO w0 R0 ρ w m) ρ w ⟨0, .e⟩) (ρ' := ρ) (n' := 0) o2 args vs hd hvs)
              refine Calls.mono (calls_of_reach hf hb h6 h8 o1 hfr) fun e w' ⟨u, he, ρ', g1, g2, g3⟩ => ⟨u, he, ?_⟩
              exact h10 w0 R0 ρ w ρ' w' u hm g1 g3
          · obtain ⟨fr, h1, h2, h3, h4⟩ := make_holds h
            obtain ⟨out, h5, h6⟩ := hih _ _ _ _ _ _ h1
            cases out with
            | stop it fr' m' => exact h5.elim
            | ret p' fr' mc =>
              dsimp only at h5
              obtain ⟨v, h7, h8⟩ := results_holds hE h5
              refine ⟨v, p', mc, h7, fun hq => (by cases hq), fun w0 R0 ρ w vs hm hvs => ?_⟩
              rw [callFunc_enter hf hb hn]
              exact calls_of_reach hf hb h6 h8 hm (frame_rel h2 h3 h4 hvs)
        · exact h.elim
      · exact h.elim
    · exact h.elim

theorem callQ_ok (hE : EOK P E) (hS : SumOK P E) {ih : ExecK α} (hih : ExecOK P ih) : CallOK P true (callQ E ih) := by
  intro f args p m κ L h
  unfold callQ at h
  split at h
  · rename_i s hs
    split at h
    · rename_i t ht
      obtain ⟨v, p', h1, h2⟩ := bindT_holds t p h (hS.1 f s args t hs ht)
      exact ⟨v, p', m, h1, fun _ => ⟨rfl, h2⟩, h2 m⟩
    · exact h.elim
  · split at h
    · rename_i fn hfn
      have hf := hE.fn f fn hfn
      split at h
      · rename_i body hb
        split at h
        · rename_i hn
          split at h
          · rename_i hd
            obtain ⟨fr, h1, h2, h3, h4⟩ := make_holds h
            obtain ⟨out, h5, h6⟩ := hih _ _ _ _ _ _ h1
            cases out with
            | stop it fr' m' => exact h5.elim
            | ret p' fr' mc =>
              dsimp only at h5
              obtain ⟨v, h7, h8⟩ := results_holds hE h5
              split at h7
              · rename_i hvd
                suffices key : ∀ m, SemCall P m v m f args from ⟨v, p', m, h7, fun _ => ⟨rfl, key⟩, key m⟩
                intro m w0 R0 ρ w vs hm hvs
                rw [callFunc_enter hf hb hn]
                obtain ⟨o1, o2⟩ := own_mem hm ρ
                have hfr := frame_rel h2 h3 h4 (RepL.data (R' := RO w (RO w0 R0 ρ w m) ρ w ⟨0, .e⟩) (ρ' := ρ) (n' := 0) o2 args vs hd hvs)
                refine Calls.mono (calls_of_reach hf hb h6 h8 o1 hfr) fun e w' ⟨u, he, ρ', g1, g2, g3⟩ => ⟨u, he, ?_⟩
                have hst := Hand.start hm g1
                obtain ⟨k1, k2⟩ := hst.finish hm g1
                exact ⟨ρ, k1, k2, Rep.data (fun b hb => hst.ro b (.inr hb)) v u hvd g3⟩
              · exact h7.elim
          · exact h.elim
        · exact h.elim
      · exact h.elim
    · exact h.elim

/-- What is known where a region begins. -/
def Start (fr : Fr) (m : Mem) : Prop := m.get m.next = none ∧ (∀ id B, m.get id = some B → id < m.next ∧ ∀ k, m.next ≤ k → mentB k (some B) = false) ∧ ∀ t k, m.next ≤ k → ment k (fr.get t) = false
theorem SRel.start {w0 : World} {R0 : Nat → Prop} {ρ : Rho} {w : World} {fr : Fr} {m : Mem} {a : Act} (h : SRel w0 R0 ρ w fr m a) : Start fr m := by
  obtain ⟨hm, hfr, _⟩ := h
  refine ⟨hm.fresh, fun id B hB => ⟨hm.lt id B hB, fun k hk => ?_⟩, fun t k hk => ?_⟩
  · cases B with
    | rows t l => rfl
    | iter s p => rfl
    | cells cs =>
      obtain ⟨arr, e, fr, _, _, h3⟩ := hm.box id _ hB
      rcases Bool.eq_false_or_eq_true (mentL k cs) with h | h
      · have := RepL.bound cs _ h3 h; omega
      · exact h
  · rcases Bool.eq_false_or_eq_true (ment k (fr.get t)) with h | h
    · have := Rep.bound _ _ (hfr.2 t) h; omega
    · exact h
/-- The same memory, with names kept for more boxes. -/
theorem MRel.bump {w0 : World} {R0 : Nat → Prop} {ρ : Rho} {w : World} {m m2 : Mem} (h : MRel w0 R0 ρ w m) (hg : ∀ id, m2.get id = m.get id) (hn : m.next ≤ m2.next) : MRel w0 R0 ρ w m2 ∧ MExt w0 R0 ρ w m ρ w m2 := by
  have e : MExt w0 R0 ρ w m ρ w m2 := ⟨hn, fun _ _ => rfl, fun b hb => ⟨by rw [RO.congr hg]; exact hb, rfl⟩⟩
  refine ⟨⟨h.below, fun id B hB => ?_, fun id B hB => h.lo id B (by rw [← hg]; exact hB), fun id B hB => h.hi id B (by rw [← hg]; exact hB), fun id id' B B' hB hB' => h.inj id id' B B' (by rw [← hg]; exact hB) (by rw [← hg]; exact hB'), fun id B hB => ?_⟩, e⟩
  · have := h.lt id B (by rw [← hg]; exact hB); omega
  · exact BoxRel.mono e B (fun _ => rfl) (h.box id B (by rw [← hg]; exact hB))
theorem idOf_mem : ∀ {refs : List (Nat × Nat)} {c k : Nat}, idOf refs c = some k → (c, k) ∈ refs
  | x :: l, c, k, h => by
    unfold idOf at h
    split at h
    · rename_i hx
      injection h with h; subst h
      rw [← Nat.eq_of_beq_eq_true hx]; exact List.mem_cons_self
    · exact List.mem_cons_of_mem _ (idOf_mem h)
theorem refsOf_range : ∀ (l : List Oper) (i k : Nat) {c j : Nat}, (c, j) ∈ refsOf l i k → k ≤ j ∧ j < k + (refsOf l i k).length
  | [], i, k, c, j, h => by cases h
  | o :: l, i, k, c, j, h => by
    have e : refsOf (o :: l) i k = match isAlloc o.op with
      | true => (i, k) :: refsOf l (i + 1) (k + 1)
      | false => refsOf l (i + 1) k := rfl
    rw [e] at h ⊢
    cases ha : isAlloc o.op with
    | true =>
      rw [ha] at h
      dsimp only at h ⊢
      rcases List.mem_cons.1 h with h | h
      · injection h with h1 h2; simp; omega
      · have := refsOf_range l (i + 1) (k + 1) h; simp; omega
    | false => rw [ha] at h; exact refsOf_range l (i + 1) k h

theorem region_reach (hE : EOK P E) (hS : SumOK P E) (hmix : P.follows .mixedOrders = true) {ih : ExecK α} (hih : ExecOK P ih) {id : Nat} {ops : Array Oper} {draw : Bool} {k : List Item} {p : Plan} {fr : Fr} {m : Mem} {κ : Out → Tree α} {L : α → Prop} (h : (codeStep E ih (.region id ops draw) k p fr m κ).holds L) :
    ∃ p' fr' m', (ih k p' fr' m' κ).holds L ∧ Reach P (.code (.region id ops draw) :: k) fr m (.stop k fr' m') := by
  have fin : ∀ (fr' : Fr) (m' : Mem), (∀ w0 R0 ρ w a, SRel w0 R0 ρ w fr m a → (Code.region id ops draw).wp P (fun e a' w' => e = .normal ∧ ∃ ρ', SRel w0 R0 ρ' w' fr' m' a' ∧ MExt w0 R0 ρ w m ρ' w' m') a w) → Reach P (.code (.region id ops draw) :: k) fr m (.stop k fr' m') := by
    intro fr' m' hw w0 R0 ρ w a hs b cs
    obtain ⟨e, a', w', ⟨rfl, ρ', g1, g2⟩, harr⟩ := hw w0 R0 ρ w a hs b k cs
    exact ⟨ρ', w', a', g1, g2, harr⟩
  dsimp only [codeStep] at h
  cases draw with
  | false =>
    obtain ⟨p', fr', m', h1, h2⟩ := execOps_chain hE (callIn_ok hE hS hih) _ _ _ _ h
    refine ⟨p', fr', m', h1, fin fr' m' fun w0 R0 ρ w a hs => wp_region ?_⟩
    have := chain_wpOps (Q := fun e a' w' => e = .normal ∧ ∃ ρ', SRel w0 R0 ρ' w' fr' m' a' ∧ MExt w0 R0 ρ w m ρ' w' m') h2 0 rfl ρ w a hs (fun ρ' w' a' g1 g2 => ⟨rfl, ρ', g1, g2⟩)
    rw [← List.range_eq_range'] at this
    simpa using this
  | true =>
    dsimp only at h
    split at h
    · rename_i hlex
      have hlex' : Region.lexB .any ops.toList.toArray = true := by simpa using hlex
      have hns : Region.noSelect ops.toList.toArray = true := by
        have := hlex'; simp only [Region.lexB, Bool.and_eq_true] at this; exact this.1
      have hrep : ∀ k, k < ops.toList.length → (Array.replicate ops.toList.length false).getD k true = false := fun k h => by
        rw [Array.getD_eq_getD_getElem?, Array.getElem?_replicate, if_pos h]; rfl
      have ord : ∀ (fr' : Fr) (m' : Mem) (frs : Nat → Fr) (vals : Nat → SV) (M : (Nat → Bool) → Mem), Walk ops.toList fr fr' frs vals → (∀ S S', (∀ k, k < ops.toList.length → S k = S' k) → M S = M S') → ((∀ id, (M fun _ => true).get id = m'.get id) ∧ (M fun _ => true).next = m'.next) →
          ((∀ id, (M fun k => (Array.replicate ops.toList.length false).getD k true).get id = m.get id) ∧ m.next ≤ (M fun k => (Array.replicate ops.toList.length false).getD k true).next) →
          (Start fr m → ∀ (S : Nat → Bool) i o, ops.toList[i]? = some o → S i = false → (∀ j oj, ops.toList[j]? = some oj → S j = true → ∀ e ∈ oj.after, Region.binds .any e = true → S e.on = true) → (∀ e ∈ o.after, Region.binds .any e = true → S e.on = true) → StepOK P ops.toList o (frs i) (M S) (vals i) (M fun k => if k = i then true else S k) ∨ AllocAt P o m.next (vals i) (cur ops.toList fr vals S ops.toList.length) (M S) (M fun k => if k = i then true else S k)) →
          Reach P (.code (.region id ops true) :: k) fr m (.stop k fr' m') := by
        intro fr' m' frs vals M hwalk hMc eAll eNone hst
        refine fin fr' m' fun w0 R0 ρ w a hs => wp_region_any hmix ?_
        have hstart := hs.start
        obtain ⟨hm, hfr, hd⟩ := hs
        obtain ⟨hm0, he0⟩ := hm.drew
        obtain ⟨hm1, he1⟩ := hm0.bump eNone.1 eNone.2
        have he1 := he0.trans he1
        have hfr1 := hfr.mono he1
        have hcur0 : ∀ (n : Nat) t, cur ops.toList fr vals (fun i => (Array.replicate ops.toList.length false).getD i true) n t = fr.get t ∨ n > ops.toList.length := by
          intro n
          induction n with
          | zero => intro t; exact .inl rfl
          | succ n ih2 =>
            intro t
            rcases Nat.lt_or_ge ops.toList.length (n + 1) with hgt | hle
            · exact .inr hgt
            · left
              simp only [cur]
              rw [if_neg (fun hc => by have := hc.1; rw [hrep n (by omega)] at this; cases this)]
              exact (ih2 t).resolve_right (by omega)
        have key := any_order (w0 := w0) (R0 := R0) (M := M) m.next hwalk (indep_of_lexB hlex') hMc (hst hstart) hns (Q := fun e a' w' => e = .normal ∧ ∃ ρ', SRel w0 R0 ρ' w' fr' m' a' ∧ MExt w0 R0 ρ w m ρ' w' m') (Ψ := fun ρ' w' mm => MExt w0 R0 ρ w m ρ' w' mm)
          (fun ρ1 w1 m1 k r w2 m2 hk h1 hn hkeep => ⟨by rw [hn]; exact h1.le, fun id hid => by rw [upd_other _ _ (by omega)]; exact h1.same id hid, fun b hb => by
            obtain ⟨g1, g2⟩ := h1.keep b hb
            obtain ⟨g3, g4⟩ := hkeep b g1
            exact ⟨g3, g4.trans g2⟩⟩)
          (fun _ _ _ _ _ _ h1 h2 => h1.trans h2) (fun ρ' w' a' g1 g2 => by
            obtain ⟨q1, q2, q3⟩ := g1
            refine ⟨rfl, ρ', ⟨q1.congr (fun id => (eAll.1 id).symm) eAll.2.symm, ?_, q3⟩, ?_⟩
            · rw [← RO.congr eAll.1, ← eAll.2]; exact q2
            · unfold MExt
              rw [← RO.congr eAll.1, ← eAll.2]; exact g2) ops.toList.length (Array.replicate ops.toList.length false) ρ w.drew a (by simp)
          (by
            have : ∀ n, n ≤ ops.toList.length → unlisted (Array.replicate ops.toList.length false) n = n := by
              intro n
              induction n with
              | zero => intro _; rfl
              | succ n ih2 =>
                intro hn
                simp only [unlisted, ih2 (by omega), hrep n (by omega)]
                simp
            exact this _ (Nat.le_refl _))
          (fun j oj hj hl => by
            have hjl := (List.getElem?_eq_some_iff.1 hj).1
            rw [Array.getD_eq_getD_getElem?, Array.getElem?_replicate, if_pos (by omega)] at hl
            cases hl)
          hm1 hfr1.1 hd (fun t => by rw [(hcur0 _ t).resolve_right (by omega)]; exact hfr1.2 t) he1
        simpa using key
      split at h
      · split at h
        · rename_i hch
          obtain ⟨p', fr', m', h1, h2⟩ := execOpsF_chain hE (callIn_ok hE hS hih) _ _ _ _ h
          obtain ⟨frs, vals, ms, hw⟩ := h2.toWalk
          have eA : curF E ops.toList ms (fun _ => true) ops.toList.length = m' := by rw [curF_all (free_keep hw) _ (Nat.le_refl _) (fun _ _ _ => rfl), hw.mlast]
          have eN : curF E ops.toList ms (fun k => (Array.replicate ops.toList.length false).getD k true) ops.toList.length = m := by rw [curF_past (i := 0) _ (Nat.zero_le _) (fun k _ h2 _ => hrep k h2)]; exact hw.mfirst
          exact ⟨p', fr', m', h1, ord fr' m' frs vals (fun S => curF E ops.toList ms S ops.toList.length) ⟨hw.first, hw.last, hw.next⟩ (fun S S' hS => curF_congr _ fun k hk _ => hS k hk)
            (by rw [eA]; exact ⟨fun _ => rfl, rfl⟩) (by rw [eN]; exact ⟨fun _ => rfl, Nat.le_refl _⟩)
            (fun _ S i o hoi hSi hcl hrd => .inl (free_step hw hch S i o hoi hSi hcl hrd))⟩
        · exact h.elim
      · split at h
        · rename_i hwetb
          have hwetb := (Bool.and_eq_true _ _ ▸ hwetb).1
          obtain ⟨p', fr', m', h1, h2⟩ := execOps_chainW hE (callQ_ok hE hS hih) _ _ _ _ h
          obtain ⟨frs, vals, ms, hw⟩ := h2.toWalk
          obtain ⟨al, af, hwet⟩ := wetB_spec hwetb
          have hquiet : ∀ i o, ops.toList[i]? = some o → writer o.op = false → ms (i + 1) = ms i := fun i o ho hwr => wet_keep hw hwet i o ho hwr
          have eA : curM ops.toList ms (fun _ => true) ops.toList.length = m' := by rw [curM_all hquiet _ (Nat.le_refl _) (fun _ _ _ => rfl), hw.mlast]
          have eN : curM ops.toList ms (fun k => (Array.replicate ops.toList.length false).getD k true) ops.toList.length = m := by rw [curM_past (i := 0) _ (Nat.zero_le _) (fun k _ h2 _ => hrep k h2)]; exact hw.mfirst
          exact ⟨p', fr', m', h1, ord fr' m' frs vals (fun S => curM ops.toList ms S ops.toList.length) ⟨hw.first, hw.last, hw.next⟩ (fun S S' hS => curM_congr _ fun k hk _ => hS k hk)
            (by rw [eA]; exact ⟨fun _ => rfl, rfl⟩) (by rw [eN]; exact ⟨fun _ => rfl, Nat.le_refl _⟩)
            (fun hst S i o hoi hSi hcl hrd => .inl (wet_step hw hwet hst.1 S i o hoi hSi hcl hrd))⟩
        · obtain ⟨p', fr', m', h1, h2⟩ := execOpsT_chain hE (callIn_ok hE hS hih) (callQ_ok hE hS hih) (callG_ok hE hih) _ _ _ _ _ _ h
          obtain ⟨frs, vals, ms, rs, hw⟩ := h2.toWalk
          have get : ∀ j, j < ops.toList.length → ∃ o, ops.toList[j]? = some o := fun j hj => ⟨_, List.getElem?_eq_getElem hj⟩
          have hkeep : ∀ id j, j < ops.toList.length → id ∉ (rs j).wt → (ms (j + 1)).get id = (ms j).get id := fun id j hj hid => by
            obtain ⟨o, ho⟩ := get j hj
            exact (hw.step j o ho).keep id hid
          have hsame : ∀ j, j < ops.toList.length → (rs j).g = false → (ms (j + 1)).next = (ms j).next := fun j hj => by
            obtain ⟨o, ho⟩ := get j hj
            exact (hw.step j o ho).same
          refine ⟨p', fr', m', h1, ord fr' m' frs vals (memS ops.toList ms rs) ⟨hw.first, hw.last, hw.next⟩ (fun S S' hS => ?_) ⟨fun id => ?_, ?_⟩ ⟨fun id => ?_, ?_⟩ (fun hst S i o hoi hSi hcl hrd => ?_)⟩
          · unfold memS
            rw [show getS ms rs S ops.toList.length = getS ms rs S' ops.toList.length from funext fun id => getS_congr _ fun j hj _ => hS j hj, nextS_congr _ fun j hj _ => hS j hj]
          · rw [memS_get, getS_all _ (fun j hj => hkeep id j hj) (fun _ _ _ => rfl), hw.mlast]
          · rw [memS_next, nextS_all _ hsame (fun _ _ _ => rfl), hw.mlast]
          · rw [memS_get, getS_past (i := 0) _ (Nat.zero_le _) (fun j _ h2 _ => hrep j h2)]
            show (ms 0).get id = _
            rw [hw.mfirst]; rfl
          · rw [memS_next, nextS_past (i := 0) _ (Nat.zero_le _) (fun j _ h2 _ => hrep j h2)]
            show _ ≤ (ms 0).next
            rw [hw.mfirst]; exact Nat.le_add_right _ _
          · refine traceT_step hw m.next (fun c k hk => ?_) (fun id B hB => hst.2.1 id B hB) (fun t k hk => hst.2.2 t k hk) S i o hoi hSi hcl hrd
            have h3 := idOf_mem hk
            obtain ⟨h4, h5⟩ := refsOf_range _ _ _ h3
            exact ⟨h3, h4, h5⟩
    · exact h.elim

theorem exec_ok (hE : EOK P E) (hS : SumOK P E) (hmix : P.follows .mixedOrders = true) : ∀ n : Nat, ExecOK P (exec (α := α) E n)
  | 0 => fun items p fr m κ L h => h.elim
  | n + 1 => by
    have ihn := exec_ok hE hS hmix n
    intro items p fr m κ L h
    change (stepIn E (exec E n) items p fr m κ).holds L at h
    -- on from where one step leads
    have onn : ∀ (items' : List Item) (p : Plan) (fr' : Fr) (m' : Mem), (exec E n items' p fr' m' κ).holds L → Reach P items fr m (.stop items' fr' m') → ∃ out, (κ out).holds L ∧ Reach P items fr m out := by
      intro items' p fr' m' h1 h2
      obtain ⟨out, h3, h4⟩ := ihn _ _ _ _ _ _ h1
      exact ⟨out, h3, h2.trans h4⟩
    unfold stepIn at h
    split at h
    · exact ⟨_, h, fun w0 R0 ρ w a hs b cs => ⟨ρ, w, a, [], hs, Ext.refl _ _ _ _, .one step_end⟩⟩
    · rename_i id k
      exact onn _ _ _ _ h (Reach.step fun b a cs w _ => step_inBlock)
    · rename_i bd k
      exact onn _ _ _ _ h (Reach.step fun b a cs w _ => step_inScope)
    · rename_i bd k
      split at h
      · exact onn _ _ _ _ h (Reach.step fun b a cs w _ => step_inLoop)
      · exact onn _ _ _ _ h (Reach.step fun b a cs w _ => step_inLoop)
      · exact ⟨_, h, Reach.refl _ _ _⟩
    · rename_i c k
      cases c with
      | skip => exact onn _ _ _ _ h (Reach.step fun b a cs w _ => step_skip)
      | label l => exact onn _ _ _ _ h (Reach.step fun b a cs w _ => step_label)
      | region id ops draw =>
        obtain ⟨p', fr', m', h1, h2⟩ := region_reach hE hS hmix ihn h
        exact onn _ _ _ _ h1 h2
      | seq x y => exact onn _ _ _ _ h (Reach.step fun b a cs w _ => step_seq)
      | cond c x y =>
        dsimp only [codeStep] at h
        split at h
        · rename_i bb hc
          obtain ⟨p', h⟩ := dec_holds h
          have st : ∀ (a : Act) (w : World), (∀ x, ∃ R ρ n, Rep R ρ n w (evalIn fr x) (a.eval x)) → a.eval c = .bool bb := fun a w hx => by
            obtain ⟨R, ρ, n, h1⟩ := hx c
            rw [hc] at h1; exact h1
          cases bb with
          | true => exact onn _ _ _ _ h (Reach.step fun b a cs w hx => by have := step_cond (P := P) (b := b) (a := a) (k := k) (cs := cs) (w := w) (x := x) (y := y) (st a w hx); simpa using this)
          | false => exact onn _ _ _ _ h (Reach.step fun b a cs w hx => by have := step_cond (P := P) (b := b) (a := a) (k := k) (cs := cs) (w := w) (x := x) (y := y) (st a w hx); simpa using this)
        · exact h.elim
      | block id bd => exact onn _ _ _ _ h (Reach.step fun b a cs w _ => step_block)
      | loop bd =>
        dsimp only [codeStep] at h
        split at h
        · exact onn _ _ _ _ h (Reach.step fun b a cs w _ => step_loop)
        · exact onn _ _ _ _ h (Reach.step fun b a cs w _ => step_loop)
        · exact ⟨_, h, Reach.refl _ _ _⟩
      | rangeFunc f ps as1 bd => exact h.elim
      | exit id =>
        dsimp only [codeStep] at h
        split at h
        · rename_i k' hk
          exact onn _ _ _ _ h (Reach.step fun b a cs w _ => step_exit hk)
        · exact h.elim
      | scope bd => exact onn _ _ _ _ h (Reach.step fun b a cs w _ => step_scope)
      | goto l => exact h.elim
      | ret => exact ⟨_, h, fun w0 R0 ρ w a hs b cs => ⟨ρ, w, a, _, hs, Ext.refl _ _ _ _, .one step_ret⟩⟩
      | refuse why => exact h.elim
    · exact h.elim

/-! ### Contracts -/

/-- What is asked of a program and of what is known of it. -/
structure Known (P : Program) (E : Env) : Prop where
  e : EOK P E
  s : SumOK P E
  mix : P.follows .mixedOrders = true

/-- A contract of a function that is handed data and hands back data. -/
theorem scall_of_exec (hK : Known P E) {n : Nat} {f : FuncId} {args : List SV} {p : Plan} {v : SV} (hd : dataL args = true) (hvd : v.data = true) (h : (execFn E n f args p).holds fun x => x.1 = v) : SCall P f args v := by
  intro m w0 R0 ρ w vs hm hvs
  unfold execFn at h
  split at h
  · rename_i fn hfn
    have hf := hK.e.fn f fn hfn
    split at h
    · rename_i body hb
      split at h
      · rename_i hn
        obtain ⟨fr, h1, h2, h3, h4⟩ := make_holds h
        obtain ⟨out, h5, h6⟩ := exec_ok hK.e hK.s hK.mix n _ _ _ _ _ _ h1
        cases out with
        | stop it fr' m' => exact h5.elim
        | ret p' fr' mc =>
          dsimp only at h5
          obtain ⟨v', h7, h8⟩ := results_holds hK.e h5
          obtain rfl : v' = v := h7
          rw [callFunc_enter hf hb hn]
          obtain ⟨o1, o2⟩ := own_mem hm ρ
          have hfr := frame_rel h2 h3 h4 (RepL.data (R' := RO w (RO w0 R0 ρ w m) ρ w ⟨0, .e⟩) (ρ' := ρ) (n' := 0) o2 args vs hd hvs)
          refine Calls.mono (calls_of_reach hf hb h6 h8 o1 hfr) fun e w' ⟨u, he, ρ', g1, g2, g3⟩ => ⟨u, he, ?_⟩
          have hst := Hand.start hm g1
          obtain ⟨k1, k2⟩ := hst.finish hm g1
          exact ⟨ρ, k1, k2, Rep.data (fun b hb => hst.ro b (.inr hb)) v' u hvd g3⟩
      · exact h.elim
    · exact h.elim
  · exact h.elim

/-- A contract, as the model's own 'Calls' says it: whatever world, arguments that say these values. -/
theorem SCall.calls {f : FuncId} {fn : Func} {body : Code} {args : List SV} {v : SV} (h : SCall P f args v) (hv : v.data = true) (hf : P.funcs[f]? = some fn) (hb : fn.body = some body) (hn : (fn.name == "runtime.NumGoroutine") = false) (w : World) (vs : List Value) (hvs : RepL (fun b => b < w.heap.size) (fun _ => (0, 0, 0)) 0 w args vs) (hg : Gnd w) :
    Calls P f vs.toArray w fun e w' => ∃ u, e = .returned u ∧ Below w.heap.size w w' ∧ Rep (fun b => b < w'.heap.size) (fun _ => (0, 0, 0)) 0 w' v u := by
  have hm : MRel w (fun _ => True) (fun _ => (0, 0, 0)) w ⟨0, .e⟩ := ⟨⟨Below.refl _ _, hg⟩, fun id B h => (by cases h), fun id B h => (by cases h), fun id B h => (by cases h), fun id id' B B' h => (by cases h), fun id B h => (by cases h)⟩
  have hext : Ext (fun b => b < w.heap.size) (fun _ => (0, 0, 0)) 0 w (RO w (fun _ => True) (fun _ => (0, 0, 0)) w ⟨0, .e⟩) (fun _ => (0, 0, 0)) 0 w := ⟨Nat.le_refl _, fun _ _ => rfl, fun b hb => ⟨.inl ⟨trivial, hb⟩, rfl⟩⟩
  have h1 := h ⟨0, .e⟩ w (fun _ => True) (fun _ => (0, 0, 0)) w vs hm (RepL.mono hext _ _ hvs)
  rw [callFunc_enter hf hb hn] at h1
  refine Calls.mono h1 fun e w' ⟨u, he, ρ', g1, g2, g3⟩ => ⟨u, he, g1.below.toBelow, ?_⟩
  refine Rep.data (fun b hb => ?_) v u hv g3
  exact g1.ro_lt hb
end
end Go.Sx
set_option linter.unusedSimpArgs false
set_option linter.unusedVariables false
namespace Go.Sx
open Go.RowKit

theorem dfltChk_rep {R : Nat → Prop} {w : World} : ∀ (u : Ty) (vs rest : List Value), dfltChk u vs = some rest → ∃ v1, vs = v1 ++ rest ∧ RepD R w u u.dflt v1
  | .unit, vs, rest, h => by simp only [dfltChk, Option.some.injEq] at h; exact ⟨[], h, rfl⟩
  | .int k, vs, rest, h => by
    unfold dfltChk at h
    split at h
    · split at h
      · rename_i hk
        injection h with h; subst h hk
        exact ⟨[_], rfl, rfl⟩
      · cases h
    · cases h
  | .bool, vs, rest, h => by
    unfold dfltChk at h
    split at h
    · injection h with h; subst h
      exact ⟨[_], rfl, rfl⟩
    · cases h
  | .str, vs, rest, h => by
    unfold dfltChk at h
    split at h
    · injection h with h; subst h
      exact ⟨[_], rfl, rfl⟩
    · cases h
  | .list t, vs, rest, h => by
    unfold dfltChk at h
    split at h
    · injection h with h; subst h
      exact ⟨[_], rfl, none, 0, rfl, Nat.le_refl _, fun h0 => absurd h0 (Nat.lt_irrefl _)⟩
    · cases h
  | .pair a b, vs, rest, h => by
    unfold dfltChk at h
    split at h
    · rename_i vs1 h1
      obtain ⟨v1, e1, r1⟩ := dfltChk_rep a vs vs1 h1
      obtain ⟨v2, e2, r2⟩ := dfltChk_rep b vs1 rest h
      exact ⟨v1 ++ v2, by rw [e1, e2]; simp, v1, v2, rfl, r1, r2⟩
    · cases h

theorem rowOf_ok {P : Program} {t : TypeId} {r : Row} (h : rowOf P t = some r) : RowOK P t r := by
  unfold rowOf at h
  split at h
  · rename_i d i hd hi
    split at h
    · rename_i z hz
      injection h with h
      subst h
      refine ⟨hd, ⟨i, z, hi, rfl, rfl, hz, fun R ρ n w => ofLeafs_rep R ρ n w _, fun u hu R w => ?_⟩, rfl, rfl⟩
      dsimp only at hu
      unfold tyIf at hu
      split at hu
      · rename_i u' hu'
        split at hu
        · rename_i hc
          injection hu with hu; subst hu
          obtain ⟨v1, e1, r1⟩ := dfltChk_rep (R := R) (w := w) u' _ _ hc
          rw [List.append_nil] at e1
          rw [e1]; exact r1
        · cases hu
      · cases hu
    · cases h
  · cases h

theorem known_of {P : Program} {sum : FuncId → Option (List SV → Option (Tree SV))} (hmix : P.follows .mixedOrders = true) (hsum : SumOK P (Env.of P sum)) : Known P (Env.of P sum) :=
  ⟨⟨fun t r h => rowOf_ok h, fun f fn h => h⟩, hsum, hmix⟩

/-- No summary at all. -/
theorem sum_none {P : Program} : SumOK P (Env.of P fun _ => none) := ⟨fun f s args t h => (by cases h), fun f s args m t h => (by cases h)⟩

/-- One function, its number, and what it hands back. -/
structure Fact where
  f : FuncId
  s : List SV → Option (Tree SV)

/-- The summaries of a list. -/
noncomputable def sumOf (l : List Fact) (f : FuncId) : Option (List SV → Option (Tree SV)) :=
  List.rec (motive := fun _ => Option (List SV → Option (Tree SV))) none (fun x _ ih => match Nat.beq x.f f with
    | true => some x.s
    | false => ih) l

/-- A fact is true of a program. -/
def Fact.ok (P : Program) (x : Fact) : Prop := ∀ args t, x.s args = some t → t.says (SCall P x.f args)

theorem sumOf_says {P : Program} : ∀ (l : List Fact), (∀ x ∈ l, x.ok P) → ∀ f s args t, sumOf l f = some s → s args = some t → t.says (SCall P f args)
  | [], _ => fun f s args t h => by cases h
  | x :: l, h => fun f s args t hs ht => by
    change (match Nat.beq x.f f with
      | true => some x.s
      | false => sumOf l f) = some s at hs
    split at hs
    · rename_i hf
      injection hs with hs
      subst hs
      have : x.f = f := Nat.eq_of_beq_eq_true hf
      subst this
      exact h x List.mem_cons_self args t ht
    · exact sumOf_says l (fun y hy => h y (List.mem_cons_of_mem _ hy)) f s args t hs ht
theorem sumOf_ok {P : Program} (l : List Fact) (h : ∀ x ∈ l, x.ok P) : SumOK P (Env.of P (sumOf l)) := ⟨sumOf_says l h, fun f s args m t h => (by cases h)⟩

/-- One function that turns rows of its caller. -/
structure WFact where
  f : FuncId
  s : List SV → Mem → Option (Tree (SV × Mem))

noncomputable def wrOf (l : List WFact) (f : FuncId) : Option (List SV → Mem → Option (Tree (SV × Mem))) :=
  List.rec (motive := fun _ => Option (List SV → Mem → Option (Tree (SV × Mem)))) none (fun x _ ih => match Nat.beq x.f f with
    | true => some x.s
    | false => ih) l
def WFact.ok (P : Program) (x : WFact) : Prop := ∀ args m t, x.s args m = some t → t.says (WCall P x.f args m)
theorem wrOf_says {P : Program} : ∀ (l : List WFact), (∀ x ∈ l, x.ok P) → ∀ f s args m t, wrOf l f = some s → s args m = some t → t.says (WCall P f args m)
  | [], _ => fun f s args m t h => by cases h
  | x :: l, h => fun f s args m t hs ht => by
    change (match Nat.beq x.f f with
      | true => some x.s
      | false => wrOf l f) = some s at hs
    split at hs
    · rename_i hf
      injection hs with hs
      subst hs
      have : x.f = f := Nat.eq_of_beq_eq_true hf
      subst this
      exact h x List.mem_cons_self args m t ht
    · exact wrOf_says l (fun y hy => h y (List.mem_cons_of_mem _ hy)) f s args m t hs ht
theorem known_ofW {P : Program} (hmix : P.follows .mixedOrders = true) {l : List Fact} {k : List WFact} (hl : ∀ x ∈ l, x.ok P) (hk : ∀ x ∈ k, x.ok P) : Known P (Env.ofW P (sumOf l) (wrOf k)) :=
  ⟨⟨fun t r h => rowOf_ok h, fun f fn h => h⟩, ⟨sumOf_says l hl, wrOf_says k hk⟩, hmix⟩

/-- The functions of a list. -/
def rdOf (l : List Nat) (f : FuncId) : Bool := l.any fun x => Nat.beq x f
theorem known_ofR {P : Program} (hmix : P.follows .mixedOrders = true) {l : List Fact} {k : List WFact} (hl : ∀ x ∈ l, x.ok P) (hk : ∀ x ∈ k, x.ok P) (rd : FuncId → Bool) : Known P (Env.ofR P (sumOf l) (wrOf k) rd) :=
  ⟨⟨fun t r h => rowOf_ok h, fun f fn h => h⟩, ⟨sumOf_says l hl, wrOf_says k hk⟩, hmix⟩

/-- A contract out of the evaluator's tree, given the facts on what it calls. -/
theorem scall_of {P : Program} (hmix : P.follows .mixedOrders = true) (l : List Fact) (hl : ∀ x ∈ l, x.ok P) (n : Nat) (p : Plan) {f : FuncId} {args : List SV} {v : SV} {t : Tree (SV × Mem)} (ht : execFn (Env.of P (sumOf l)) n f args p = t) (h : t.holds fun x => x.1 = v) (hd : dataL args = true) (hv : v.data = true) : SCall P f args v :=
  scall_of_exec (known_of hmix (sumOf_ok l hl)) hd hv (by rw [ht]; exact h)
end Go.Sx
set_option linter.unusedSimpArgs false
set_option linter.unusedVariables false
namespace Go.Sx
open Go.RowKit Go.WideShapes

def lay.rep (u : Ty) : Nat → Ty
  | 0 => .unit
  | 1 => u
  | n + 2 => .pair u (lay.rep u (n + 1))

def lay.goF (P : Program) (ty : TypeId → Option Ty) : Nat → List Field → Option Ty
  | _, [] => some .unit
  | off, [f] => match ty f.type with
    | some u => if f.offset = off ∧ P.cellsOf f.type = u.sz then some u else none
    | none => none
  | off, f :: fs => match ty f.type with
    | some a => if f.offset = off ∧ P.cellsOf f.type = a.sz then (match lay.goF P ty (off + a.sz) fs with
      | some b => some (.pair a b)
      | none => none) else none
    | none => none

/-- The type of data, its layout looked at. -/
def lay (P : Program) : Nat → TypeId → Option Ty
  | 0, _ => none
  | d + 1, t => match P.underlying t with
    | some .bool => some .bool
    | some (.int k) => some (.int k)
    | some .string => some .str
    | some (.slice e) => match lay P d e with
      | some u => if P.cellsOf e = u.sz ∧ 0 < u.sz then some (.list u) else none
      | none => none
    | some (.struct fs) => match lay.goF P (lay P d) 0 fs.toList with
      | some u => if P.cellsOf t = u.sz then some u else none
      | none => none
    | some (.array n e) => match lay P d e with
      | some u => if P.cellsOf e = u.sz ∧ P.cellsOf t = (lay.rep u n).sz then some (lay.rep u n) else none
      | none => none
    | _ => none

/-- Numbers fit their kinds, lengths fit. -/
def Ty.fits : (t : Ty) → t.T → Prop
  | .unit, _ => True
  | .int k, n => (Lit.int k n).wf = true
  | .bool, _ => True
  | .str, s => List.length s ≤ maxLen
  | .list t, l => List.length l ≤ maxLen ∧ ∀ x ∈ (show List t.T from l), t.fits x
  | .pair a b, x => a.fits x.1 ∧ b.fits x.2

theorem exists_list {α : Type} {Q : Nat → α → Prop} : ∀ (n : Nat), (∀ i, i < n → ∃ y, Q i y) → ∃ l : List α, l.length = n ∧ ∀ i (h : i < l.length), Q i l[i]
  | 0, _ => ⟨[], rfl, fun i h => absurd h (Nat.not_lt_zero _)⟩
  | n + 1, h => by
    obtain ⟨l, hl, hq⟩ := exists_list n fun i hi => h i (Nat.lt_succ_of_lt hi)
    obtain ⟨y, hy⟩ := h n (Nat.lt_succ_self n)
    refine ⟨l ++ [y], by simp [hl], fun i hi => ?_⟩
    by_cases h1 : i < l.length
    · rw [List.getElem_append_left h1]; exact hq i h1
    · have : i = n := by simp at hi; omega
      subst this
      rw [List.getElem_append_right (by omega)]
      simpa [hl] using hy

theorem add_none {a : Addr} (h : a.spot = none) (k : Nat) : a.add k = ⟨a.block, a.off + k, none⟩ := by
  obtain ⟨b, o, s⟩ := a
  subst h
  by_cases hk : k = 0 <;> simp [Addr.add, hk]
theorem add_spot {a : Addr} (h : a.spot = none) {k : Nat} : (a.add k).spot = none := by rw [add_none h]

section
variable {H : Type} {enc : TypeId × Value → H} {P : Program} {W : World}

/-- These cells read as a datum that fits. -/
def IsD (W : World) (u : Ty) (cs : List Value) : Prop := ∃ y : u.T, u.fits y ∧ RepD (fun b => b < W.heap.size) W u y cs

theorem rep_lay {u : Ty} : ∀ (n : Nat) (cs : List Value), cs.length = (lay.rep u n).sz → (∀ i, i < n → IsD W u ((cs.drop (i * u.sz)).take u.sz)) → IsD W (lay.rep u n) cs
  | 0, cs, h, _ => ⟨(), trivial, List.length_eq_zero_iff.mp h⟩
  | 1, cs, h, hi => by
    have := hi 0 (by omega)
    have hc : cs.length = u.sz := h
    have h2 : (cs.drop (0 * u.sz)).take u.sz = cs := by simp [← hc]
    rw [h2] at this
    exact this
  | n + 2, cs, h, hi => by
    obtain ⟨y1, f1, r1⟩ := hi 0 (by omega)
    have hc : cs.length = u.sz + (lay.rep u (n + 1)).sz := h
    obtain ⟨y2, f2, r2⟩ := rep_lay (u := u) (n + 1) (cs.drop u.sz) (by simp [hc]) fun i hin => by
      have := hi (i + 1) (by omega)
      rw [List.drop_drop]
      rwa [show u.sz + i * u.sz = (i + 1) * u.sz by rw [Nat.add_mul]; omega]
    exact ⟨(y1, y2), ⟨f1, f2⟩, _, _, (List.take_append_drop u.sz cs).symm, by simpa using r1, r2⟩

theorem lay_rep : ∀ (d : Nat) (t : TypeId) (u : Ty), lay P d t = some u → ∀ (n : Nat) (cs : List Value) (x), DataW.trod enc P W 0 (fun _ => true) true n t cs = some x → IsD W u cs
  | 0, _, _, h => by simp [lay] at h
  | d + 1, t, u, h => fun n cs x hx => by
    have ih := lay_rep d
    have hF : ∀ (fs : List Field) (off : Nat) (u : Ty), lay.goF P (lay P d) off fs = some u → off + u.sz = cs.length →
        (∀ f ∈ fs, ∃ m y, DataW.trod enc P W 0 (fun _ => true) true m f.type ((cs.drop f.offset).take (P.cellsOf f.type)) = some y) → IsD W u (cs.drop off) := by
      intro fs
      induction fs with
      | nil =>
        intro off u h hl _
        simp only [lay.goF, Option.some.injEq] at h
        subst h
        exact ⟨(), trivial, List.length_eq_zero_iff.mp (by simp [Ty.sz] at hl; simp; omega)⟩
      | cons f fs ihf =>
        intro off u h hl hm
        obtain ⟨m, y, hy⟩ := hm f List.mem_cons_self
        cases fs with
        | nil =>
          unfold lay.goF at h
          split at h
          · rename_i u' hu'
            split at h
            · rename_i hc
              injection h with h; subst h
              have := ih _ _ hu' _ _ _ hy
              rw [hc.1, hc.2] at this
              rwa [List.take_of_length_le (by simp; omega)] at this
            · cases h
          · cases h
        | cons g gs =>
          unfold lay.goF at h
          split at h
          · rename_i a ha
            split at h
            · rename_i hc
              split at h
              · rename_i b hb
                injection h with h; subst h
                have h1 := ih _ _ ha _ _ _ hy
                rw [hc.1, hc.2] at h1
                obtain ⟨y1, f1, r1⟩ := h1
                obtain ⟨y2, f2, r2⟩ := ihf (off + a.sz) b hb (by simp only [Ty.sz] at hl; omega) fun f' hf' => hm f' (List.mem_cons_of_mem _ hf')
                refine ⟨(y1, y2), ⟨f1, f2⟩, _, _, ?_, r1, r2⟩
                rw [← List.drop_drop, List.take_append_drop]
              · cases h
            · cases h
          · cases h
    unfold lay at h
    split at h
    · rename_i ht
      injection h with h; subst h
      obtain ⟨b, rfl, _⟩ := DataW.trod_bool ht hx
      exact ⟨b, trivial, rfl⟩
    · rename_i k ht
      injection h with h; subst h
      obtain ⟨i, rfl, _, hw⟩ := DataW.trod_int ht hx
      exact ⟨i, hw, rfl⟩
    · rename_i ht
      injection h with h; subst h
      obtain ⟨s, rfl, _, hw⟩ := DataW.trod_string ht hx
      exact ⟨s.data.toList, by simpa [Ty.fits] using hw, rfl⟩
    · rename_i e ht
      split at h
      · rename_i u' hu'
        split at h
        · rename_i hc
          injection h with h; subst h
          rcases DataW.trod_slice ht hx with ⟨rfl, _⟩ | ⟨a, len, cap, elems, rest, n', rfl, rfl, rfl, _, hl, hm, hel, hi, _, _⟩
          · exact ⟨([] : List u'.T), ⟨Nat.zero_le _, fun x hx => (by cases hx)⟩, none, 0, rfl, Nat.le_refl _, fun h0 => absurd h0 (Nat.lt_irrefl _)⟩
          · have key : ∀ i, i < len → ∃ y : u'.T, u'.fits y ∧ a.spot = none ∧ a.block < W.heap.size ∧ ∃ cs : List Value, cs.length = u'.sz ∧ (∀ j, j < u'.sz → W.cell? ⟨a.block, a.off + (i * u'.sz + j), none⟩ = cs[j]?) ∧ RepD (fun b => b < W.heap.size) W u' y cs := by
              intro i hlt
              have h1 := hi i hlt
              rw [List.getElem?_eq_getElem (by omega)] at h1
              obtain ⟨cs, hcs, htr⟩ := Option.bind_eq_some_iff.mp h1
              unfold World.cells? at hcs
              simp only [Nat.zero_le, if_true] at hcs
              have hlen := mapM_some_length hcs
              simp only [List.length_range] at hlen
              have hget : ∀ j, j < u'.sz → W.cell? ((a.add (i * P.cellsOf e)).add j) = cs[j]? := fun j hj => mapM_some_get hcs j j (by rw [List.getElem?_range (by omega)])
              obtain ⟨y, f, r⟩ := ih _ _ hu' _ _ _ htr
              have hs' : a.spot = none := by
                have h1 := hi 0 (by omega)
                rw [List.getElem?_eq_getElem (by omega)] at h1
                obtain ⟨cs, hcs, _⟩ := Option.bind_eq_some_iff.mp h1
                unfold World.cells? at hcs
                simp only [Nat.zero_le, if_true] at hcs
                have hlen := mapM_some_length hcs
                simp only [List.length_range] at hlen
                have h2 := mapM_some_get hcs 0 0 (by rw [List.getElem?_range (by omega)])
                rw [List.getElem?_eq_getElem (by omega)] at h2
                have := World.cell?_spot h2
                simpa [Addr.add] using this
              have h00 := hget 0 hc.2
              rw [List.getElem?_eq_getElem (by omega)] at h00
              refine ⟨y, f, hs', ?_, cs, by omega, fun j hj => ?_, r⟩
              · refine Nat.lt_of_not_le fun hge => ?_
                unfold World.cell? at h00
                rw [show ((a.add (i * P.cellsOf e)).add 0).block = a.block by rw [add_none (add_spot hs'), add_none hs'], Array.getElem?_eq_none hge] at h00
                simp at h00
              · rw [← hget j hj, hc.1, add_none (add_spot hs'), add_none hs']
                simp only [Nat.add_assoc]
            obtain ⟨l, hll, hq⟩ := exists_list len key
            subst hll
            refine ⟨l, ⟨Nat.le_trans hl hm, fun x hx => ?_⟩, some a, cap, rfl, hl, fun h0 => ?_⟩
            · obtain ⟨i, hi', rfl⟩ := List.getElem_of_mem hx
              exact (hq i hi').1
            · obtain ⟨_, hs, hb, _⟩ := hq 0 h0
              refine ⟨a.block, a.off, by rw [← hs], hb, fun i hi' => ?_⟩
              obtain ⟨_, _, _, cs, c1, c2, c3⟩ := hq i hi'
              exact ⟨cs, c1, c2, c3⟩
        · cases h
      · cases h
    · rename_i fs ht
      split at h
      · rename_i u' hu'
        split at h
        · rename_i hc
          injection h with h; subst h
          obtain ⟨xs, n', rfl, _, hcs, hxs, hf⟩ := DataW.trod_struct ht hx
          have := hF fs.toList 0 _ hu' (by omega) fun f hfm => by
            obtain ⟨i, hi', rfl⟩ := List.getElem_of_mem hfm
            have := hf i _ (by rw [← Array.getElem?_toList]; exact List.getElem?_eq_getElem hi')
            rw [List.getElem?_eq_getElem (by simp at hi'; omega)] at this
            exact ⟨_, _, this⟩
          simpa using this
        · cases h
      · cases h
    · rename_i k e ht
      split at h
      · rename_i u' hu'
        split at h
        · rename_i hc
          injection h with h; subst h
          cases n with
          | zero => simp [DataW.trod] at hx
          | succ n =>
            unfold DataW.trod at hx
            simp only [ht] at hx
            split at hx
            case isFalse => cases hx
            rename_i hl
            obtain ⟨xs, hp, _⟩ := Option.map_eq_some_iff.mp hx
            rw [hc.1] at hp
            refine rep_lay k cs (by omega) fun i hi' => ?_
            have hlx := mapM_some_length hp
            have := mapM_some_get hp i i (by rw [List.getElem?_range hi'])
            rw [List.getElem?_eq_getElem (by simp at hlx; omega)] at this
            exact ih _ _ hu' _ _ _ this
        · cases h
      · cases h
    · cases h

/-- A struct comes as a list of cells; all else is one cell. -/
def argOf (st : Bool) (u : Ty) (y : u.T) : SV := match st with
  | true => .agg (flat u y)
  | false => match flat u y with
    | [c] => c
    | _ => .top

theorem argOf_agg {t : TypeId} {u : Ty} {d : Nat} {v : Value} {x : DataW H} {ps : List MemPlace} (hu : lay P d t = some u) {fs : Array Field} (ht : P.underlying t = some (.struct fs)) {r : _root_.Go.Reach} {b0 : Nat} (hval : Value.okWide P W r b0 t v)
    (hd : DataW.Trod enc P W 0 (fun _ => true) true t v x ps) : ∃ y : u.T, u.fits y ∧ Rep (fun b => b < W.heap.size) (fun _ => (0, 0, 0)) 0 W (.agg (flat u y)) v := by
  obtain ⟨cs, rfl, _⟩ := okWide_struct ht hval
  obtain ⟨n, hn⟩ := hd
  obtain ⟨y, f, r⟩ := lay_rep d t u hu n _ _ hn
  exact ⟨y, f, cs.toList, rfl, (RepD.flat u y _ r).2⟩

theorem argOf_one {t : TypeId} {u : Ty} {d : Nat} {v : Value} {x : DataW H} {ps : List MemPlace} (hu : lay P d t = some u) (hone : v.cells = #[v])
    (hd : DataW.Trod enc P W 0 (fun _ => true) true t v x ps) : ∃ y : u.T, u.fits y ∧ RepL (fun b => b < W.heap.size) (fun _ => (0, 0, 0)) 0 W (flat u y) [v] := by
  obtain ⟨n, hn⟩ := hd
  rw [hone] at hn
  obtain ⟨y, f, r⟩ := lay_rep d t u hu n _ _ hn
  exact ⟨y, f, (RepD.flat u y _ r).2⟩

theorem argOf_int {t : TypeId} {k : IntKind} {d : Nat} {v : Value} {x : DataW H} {ps : List MemPlace} (hu : lay P (d + 1) t = some (.int k)) (ht : P.underlying t = some (.int k)) {r : _root_.Go.Reach} {b0 : Nat} (hval : Value.okWide P W r b0 t v)
    (hd : DataW.Trod enc P W 0 (fun _ => true) true t v x ps) : ∃ y : Int, (Lit.int k y).wf = true ∧ Rep (fun b => b < W.heap.size) (fun _ => (0, 0, 0)) 0 W (.int k y) v := by
  obtain ⟨i, rfl⟩ := okWide_int ht hval
  obtain ⟨y, f, u, us, e, r, _⟩ := argOf_one hu rfl hd
  injection e with e1 e2; subst e1
  exact ⟨y, f, r⟩

theorem argOf_bool {t : TypeId} {d : Nat} {v : Value} {x : DataW H} {ps : List MemPlace} (hu : lay P (d + 1) t = some .bool) (ht : P.underlying t = some .bool) {r : _root_.Go.Reach} {b0 : Nat} (hval : Value.okWide P W r b0 t v)
    (hd : DataW.Trod enc P W 0 (fun _ => true) true t v x ps) : ∃ y : Bool, Rep (fun b => b < W.heap.size) (fun _ => (0, 0, 0)) 0 W (.bool y) v := by
  obtain ⟨i, rfl⟩ := okWide_bool ht hval
  obtain ⟨y, f, u, us, e, r, _⟩ := argOf_one hu rfl hd
  injection e with e1 e2; subst e1
  exact ⟨y, r⟩

theorem argOf_str {t : TypeId} {d : Nat} {v : Value} {x : DataW H} {ps : List MemPlace} (hu : lay P (d + 1) t = some .str) (ht : P.underlying t = some .string) {r : _root_.Go.Reach} {b0 : Nat} (hval : Value.okWide P W r b0 t v)
    (hd : DataW.Trod enc P W 0 (fun _ => true) true t v x ps) : ∃ y : List UInt8, y.length ≤ maxLen ∧ Rep (fun b => b < W.heap.size) (fun _ => (0, 0, 0)) 0 W (.str y) v := by
  obtain ⟨i, rfl⟩ := okWide_string ht hval
  obtain ⟨y, f, u, us, e, r, _⟩ := argOf_one hu rfl hd
  injection e with e1 e2; subst e1
  exact ⟨y, f, r⟩

theorem argOf_list {t e : TypeId} {u : Ty} {d : Nat} {v : Value} {x : DataW H} {ps : List MemPlace} (hu : lay P (d + 1) t = some (.list u)) (ht : P.underlying t = some (.slice e)) {r : _root_.Go.Reach} {b0 : Nat} (hval : Value.okWide P W r b0 t v)
    (hd : DataW.Trod enc P W 0 (fun _ => true) true t v x ps) : ∃ y : List u.T, (y.length ≤ maxLen ∧ ∀ x ∈ y, u.fits x) ∧ Rep (fun b => b < W.heap.size) (fun _ => (0, 0, 0)) 0 W (.list u y) v := by
  obtain ⟨a, len, cap, rfl⟩ := okWide_slice ht hval
  obtain ⟨y, f, w, us, e, r, _⟩ := argOf_one hu rfl hd
  injection e with e1 e2; subst e1
  exact ⟨y, f, r⟩
end
end Go.Sx
set_option linter.unusedSimpArgs false
set_option linter.unusedVariables false
namespace Go.Sx
open Go.RowKit

/-- The values alone. -/
def Tree.vals : Tree (SV × Mem) → Tree SV
  | .leaf x => .leaf x.1
  | .node b t f => .node b t.vals f.vals
  | .req b t => .req b t.vals
  | .fail n => .fail n

theorem Tree.vals_holds {L : SV → Prop} : ∀ t : Tree (SV × Mem), t.vals.holds L → t.holds fun x => L x.1
  | .leaf _, h => h
  | .node _ t f, h => ⟨fun hb => t.vals_holds (h.1 hb), fun hb => f.vals_holds (h.2 hb)⟩
  | .req _ t, h => ⟨h.1, t.vals_holds h.2⟩
  | .fail _, h => h

/-- All facts of a list are true. -/
def allOk (P : Program) : List Fact → Prop
  | [] => True
  | x :: l => x.ok P ∧ allOk P l
theorem allOk.all {P : Program} : ∀ {l : List Fact}, allOk P l → ∀ x ∈ l, x.ok P
  | _ :: _, h, _, .head _ => h.1
  | _ :: _, h, _, .tail _ hx => h.2.all _ hx

theorem scall_v {P : Program} (hmix : P.follows .mixedOrders = true) (l : List Fact) (hl : allOk P l) (n : Nat) (p : Plan) {f : FuncId} {args : List SV} {v : SV} {t : Tree SV}
    (ht : (execFn (Env.of P (sumOf l)) n f args p).vals = t) (h : t.holds fun x => x = v) (hd : dataL args = true) (hv : v.data = true) : SCall P f args v :=
  scall_of hmix l hl.all n p rfl (Tree.vals_holds _ (by rw [ht]; exact h)) hd hv

theorem SCall.calls_some {P : Program} {f : FuncId} {fn : Func} {args : List SV} {v : SV} (h : SCall P f args v) (hv : v.data = true) (hf : P.funcs[f]? = some fn) (hb : fn.body.isSome = true) (hn : (fn.name == "runtime.NumGoroutine") = false) (w : World) (vs : List Value) (hvs : RepL (fun b => b < w.heap.size) (fun _ => (0, 0, 0)) 0 w args vs) (hg : Gnd w) :
    Calls P f vs.toArray w fun e w' => ∃ u, e = .returned u ∧ Below w.heap.size w w' ∧ Rep (fun b => b < w'.heap.size) (fun _ => (0, 0, 0)) 0 w' v u := by
  obtain ⟨body, hb⟩ := Option.isSome_iff_exists.mp hb
  exact h.calls hv hf hb hn w vs hvs hg

theorem wrap64 {x : Int} (h : -9223372036854775808 ≤ x) (k : x ≤ 9223372036854775807) : IntKind.wrap .i64 x = x := by
  have h2 : IntKind.wrap .i64 x = if true && decide (x % 18446744073709551616 ≥ 9223372036854775808) then x % 18446744073709551616 - 18446744073709551616 else x % 18446744073709551616 := rfl
  rw [h2]
  simp only [Bool.true_and, decide_eq_true_eq]
  split <;> omega
end Go.Sx
set_option linter.unusedSimpArgs false
set_option linter.unusedVariables false
namespace Go.Sx
open Go.RowKit

mutual
/-- All names lie below. -/
def SV.under (k : Nat) : SV → Bool
  | .row id => Nat.blt id k
  | .arr id _ _ => Nat.blt id k
  | .ptr id _ => Nat.blt id k
  | .rptr id _ _ _ => Nat.blt id k
  | .agg cs => underL k cs
  | .tuple cs => underL k cs
  | .fn _ a b => underL k a && underL k b
  | _ => true
def underL (k : Nat) : List SV → Bool
  | [] => true
  | x :: xs => x.under k && underL k xs
end

def Box.under (k : Nat) : Box → Bool
  | .cells cs => underL k cs
  | _ => true

mutual
theorem Rep.lower {R R' : Nat → Prop} {ρ : Rho} {n k : Nat} {w : World} (hR : ∀ b, R b → R' b) : ∀ (x : SV) (v : Value), x.under k = true → Rep R ρ n w x v → Rep R' ρ k w x v
  | .undef, _, _, h => h
  | .top, _, _, h => trivial
  | .int _ _, _, _, h => h
  | .bool _, _, _, h => h
  | .str _, _, _, h => h
  | .nilS, _, _, h => h
  | .list t l, v, _, h => RepD.mono (fun b hb => ⟨hR b hb, rfl⟩) (.list t) l [v] h
  | .row id, _, u, h => ⟨by simpa [SV.under] using u, h.2⟩
  | .arr id _ _, _, u, h => ⟨by simpa [SV.under] using u, h.2⟩
  | .ptr id _, _, u, h => ⟨by simpa [SV.under] using u, h.2⟩
  | .nilP, _, _, h => h
  | .eptr t l i off, v, _, h => by
    obtain ⟨b, o, h1, h2, h3⟩ := h
    exact ⟨b, o, h1, h2, h3.mono fun b hb => ⟨hR b hb, rfl⟩⟩
  | .rptr id _ _ _, _, u, h => ⟨by simpa [SV.under] using u, h.2⟩
  | .agg cs, v, u, h => by
    obtain ⟨vs, h1, h2⟩ := h
    exact ⟨vs, h1, RepL.lower hR cs vs u h2⟩
  | .tuple cs, v, u, h => by
    obtain ⟨vs, h1, h2⟩ := h
    exact ⟨vs, h1, RepL.lower hR cs vs u h2⟩
  | .fn f first cap, v, u, h => by
    obtain ⟨vs, us, h1, h2, h3⟩ := h
    have u' : underL k first = true ∧ underL k cap = true := by simpa [SV.under] using u
    exact ⟨vs, us, h1, RepL.lower hR first vs u'.1 h2, RepL.lower hR cap us u'.2 h3⟩
  | .raw _, _, _, h => h
theorem RepL.lower {R R' : Nat → Prop} {ρ : Rho} {n k : Nat} {w : World} (hR : ∀ b, R b → R' b) : ∀ (xs : List SV) (vs : List Value), underL k xs = true → RepL R ρ n w xs vs → RepL R' ρ k w xs vs
  | [], _, _, h => h
  | x :: xs, vs, u, h => by
    obtain ⟨v, us, h1, h2, h3⟩ := h
    have u' : x.under k = true ∧ underL k xs = true := by simpa [underL] using u
    exact ⟨v, us, h1, Rep.lower hR x v u'.1 h2, RepL.lower hR xs us u'.2 h3⟩
end

theorem BoxRel.lower {R R' : Nat → Prop} {ρ : Rho} {n k : Nat} {w : World} {r : Nat × Nat × Nat} (hR : ∀ b, R b → R' b) : ∀ (B : Box), B.under k = true → BoxRel R ρ n w r B → BoxRel R' ρ k w r B
  | .cells cs, u, h => by
    obtain ⟨arr, e, fr, h1, h2, h3⟩ := h
    exact ⟨arr, e, fr, h1, h2, RepL.lower hR _ _ u h3⟩
  | .rows t l, _, h => by
    obtain ⟨h1, h2, h3⟩ := h
    refine ⟨h1, h2, fun h0 => ?_⟩
    obtain ⟨arr, e, fr, k1, k2, k3, k4⟩ := h3 h0
    refine ⟨arr, e, fr, k1, k2, k3, fun i hi => ?_⟩
    obtain ⟨cs, c1, c2, c3⟩ := k4 i hi
    exact ⟨cs, c1, c2, RepD.mono (fun b hb => ⟨hR b hb, rfl⟩) _ _ _ c3⟩
  | .iter s pos, _, h => h

/-- What is kept of a frame. -/
noncomputable def viewS (fr : Fr) : List Bool → Nat → List SV
  | [], _ => []
  | true :: ks, t => fr.get t :: viewS fr ks (t + 1)
  | false :: ks, t => .top :: viewS fr ks (t + 1)

/-- What is kept of a memory. -/
noncomputable def viewM (m : Mem) : List Bool → Nat → List (Option Box)
  | [], _ => []
  | true :: ks, t => m.get t :: viewM m ks (t + 1)
  | false :: ks, t => none :: viewM m ks (t + 1)

theorem viewS_get (fr : Fr) : ∀ (ks : List Bool) (t i : Nat) (x : SV), (viewS fr ks t)[i]? = some x → x = .top ∨ x = fr.get (t + i)
  | [], _, _, _, h => by simp [viewS] at h
  | true :: ks, t, 0, x, h => by simp [viewS] at h; exact .inr h.symm
  | false :: ks, t, 0, x, h => by simp [viewS] at h; exact .inl h.symm
  | true :: ks, t, i + 1, x, h => by
    have := viewS_get fr ks (t + 1) i x (by simpa [viewS] using h)
    rwa [show t + (i + 1) = t + 1 + i by omega]
  | false :: ks, t, i + 1, x, h => by
    have := viewS_get fr ks (t + 1) i x (by simpa [viewS] using h)
    rwa [show t + (i + 1) = t + 1 + i by omega]
theorem viewS_length (fr : Fr) : ∀ (ks : List Bool) (t : Nat), (viewS fr ks t).length = ks.length
  | [], _ => rfl
  | true :: ks, t => by simp [viewS, viewS_length fr ks]
  | false :: ks, t => by simp [viewS, viewS_length fr ks]
theorem viewM_get (m : Mem) : ∀ (ks : List Bool) (t i : Nat) (x : Box), (viewM m ks t)[i]? = some (some x) → m.get (t + i) = some x
  | [], _, _, _, h => by simp [viewM] at h
  | true :: ks, t, 0, x, h => by simp [viewM] at h; exact h
  | false :: ks, t, 0, x, h => by simp [viewM] at h
  | true :: ks, t, i + 1, x, h => by
    have := viewM_get m ks (t + 1) i x (by simpa [viewM] using h)
    rwa [show t + (i + 1) = t + 1 + i by omega]
  | false :: ks, t, i + 1, x, h => by
    have := viewM_get m ks (t + 1) i x (by simpa [viewM] using h)
    rwa [show t + (i + 1) = t + 1 + i by omega]

/-- A state of this form. -/
structure Canon (slots : List SV) (boxes : List (Option Box)) (fr : Fr) (m : Mem) : Prop where
  size : fr.size = slots.length
  get : ∀ t, fr.get t = slots.getD t .undef
  next : m.next = boxes.length
  box : ∀ id, m.get id = (boxes[id]?).join

def underO (k : Nat) : List (Option Box) → Bool
  | [] => true
  | some b :: l => b.under k && underO k l
  | none :: l => underO k l

theorem underL_get {k : Nat} : ∀ {l : List SV} {i : Nat} {x : SV}, underL k l = true → l[i]? = some x → x.under k = true
  | [], _, _, _, h => by simp at h
  | y :: l, 0, x, u, h => by
    have u' : y.under k = true ∧ underL k l = true := by simpa [underL] using u
    simp at h; subst h; exact u'.1
  | y :: l, i + 1, x, u, h => by
    have u' : y.under k = true ∧ underL k l = true := by simpa [underL] using u
    exact underL_get u'.2 (by simpa using h)
theorem underO_get {k : Nat} : ∀ {l : List (Option Box)} {i : Nat} {x : Box}, underO k l = true → l[i]? = some (some x) → x.under k = true
  | [], _, _, _, h => by simp at h
  | none :: l, 0, x, u, h => by simp at h
  | some y :: l, 0, x, u, h => by
    have u' : y.under k = true ∧ underO k l = true := by simpa [underO] using u
    simp at h; subst h; exact u'.1
  | none :: l, i + 1, x, u, h => underO_get (l := l) (by simpa [underO] using u) (by simpa using h)
  | some y :: l, i + 1, x, u, h => by
    have u' : y.under k = true ∧ underO k l = true := by simpa [underO] using u
    exact underO_get u'.2 (by simpa using h)

/-- A state is also what is left of it. -/
theorem SRel.weaken {w0 : World} {R0 : Nat → Prop} {ρ : Rho} {w : World} {fr fr2 : Fr} {m m2 : Mem} {a : Act} {slots : List SV} {boxes : List (Option Box)} (h : SRel w0 R0 ρ w fr m a) (hc : Canon slots boxes fr2 m2)
    (hlen : slots.length = fr.size) (hs : ∀ (i : Nat) (x : SV), slots[i]? = some x → x = .top ∨ x = fr.get i) (hb : ∀ (i : Nat) (B : Box), boxes[i]? = some (some B) → m.get i = some B)
    (us : underL boxes.length slots = true) (ub : underO boxes.length boxes = true) : SRel w0 R0 ρ w fr2 m2 a ∧ ∀ b, RO w0 R0 ρ w m b → RO w0 R0 ρ w m2 b := by
  obtain ⟨h1, h2, h3⟩ := h
  have hg : ∀ id B, m2.get id = some B → boxes[id]? = some (some B) ∧ m.get id = some B := fun id B hB => by
    rw [hc.box id] at hB
    have : boxes[id]? = some (some B) := by
      cases hx : boxes[id]? with
      | none => rw [hx] at hB; cases hB
      | some y => rw [hx] at hB; simp at hB; rw [hB]
    exact ⟨this, hb id B this⟩
  have hro : ∀ b, RO w0 R0 ρ w m b → RO w0 R0 ρ w m2 b := fun b hb => by
    rcases hb with hb | ⟨k1, k2, k3⟩
    · exact .inl hb
    · exact .inr ⟨k1, k2, fun id B hB => k3 id B (hg id B hB).2⟩
  refine ⟨⟨⟨h1.below, fun id B hB => ?_, fun id B hB => h1.lo id B (hg id B hB).2, fun id B hB => h1.hi id B (hg id B hB).2, fun id id' B B' hB hB' => h1.inj id id' B B' (hg id B hB).2 (hg id' B' hB').2, fun id B hB => ?_⟩, ⟨?_, fun t => ?_⟩, h3⟩, hro⟩
  · rw [hc.next]
    have := (hg id B hB).1
    exact (List.getElem?_eq_some_iff.mp this).1
  · rw [hc.next]
    exact BoxRel.lower hro B (underO_get ub (hg id B hB).1) (h1.box id B (hg id B hB).2)
  · rw [hc.size, hlen]; exact h2.1
  · rw [hc.get t, hc.next]
    rw [List.getD_eq_getElem?_getD]
    cases hx : slots[t]? with
    | none =>
      have ht : slots.length ≤ t := by simpa using hx
      have : a.tmps.getD t Go.undef = Go.undef := by
        rw [Array.getD_eq_getD_getElem?, Array.getElem?_eq_none (by rw [← h2.1, ← hlen]; exact ht)]
        rfl
      rw [this]; exact rfl
    | some x =>
      rcases hs t x hx with rfl | rfl
      · exact trivial
      · exact Rep.lower hro _ _ (underL_get us hx) (h2.2 t)

theorem Reach.weaken {P : Program} {items items' : List Item} {fr fr1 fr2 : Fr} {m m1 m2 : Mem} {slots : List SV} {boxes : List (Option Box)} (h : Reach P items fr m (.stop items' fr1 m1)) (hc : Canon slots boxes fr2 m2)
    (hlen : slots.length = fr1.size) (hs : ∀ (i : Nat) (x : SV), slots[i]? = some x → x = .top ∨ x = fr1.get i) (hb : ∀ (i : Nat) (B : Box), boxes[i]? = some (some B) → m1.get i = some B)
    (us : underL boxes.length slots = true) (ub : underO boxes.length boxes = true) (hn : m.next ≤ boxes.length) : Reach P items fr m (.stop items' fr2 m2) := by
  intro w0 R0 ρ w a hsr b cs
  obtain ⟨ρ1, w1, a1, g1, g2, g3⟩ := h w0 R0 ρ w a hsr b cs
  obtain ⟨k1, k2⟩ := g1.weaken hc hlen hs hb us ub
  exact ⟨ρ1, w1, a1, k1, ⟨by rw [hc.next]; exact hn, g2.same, fun b hb => ⟨k2 b (g2.keep b hb).1, (g2.keep b hb).2⟩⟩, g3⟩

/-! ### Segments -/

inductive Stop where
  | done (v : SV)
  | at (items : List Item) (size : Nat) (slots : List SV) (boxes : List (Option Box))

noncomputable def memFill {α : Type} : List (Option Box) → Mem → (Mem → Tree α) → Tree α
  | [], m, k => k m
  | some B :: l, m, k => m.push B fun m _ => memFill l m k
  | none :: l, m, k => memFill l ⟨m.next + 1, m.tb⟩ k

theorem memFill_holds {α : Type} {L : α → Prop} : ∀ (l : List (Option Box)) (m : Mem) (k : Mem → Tree α), (memFill l m k).holds L → (∀ id, m.next ≤ id → m.get id = none) →
    ∃ m', (k m').holds L ∧ m'.next = m.next + l.length ∧ (∀ id, id < m.next → m'.get id = m.get id) ∧ ∀ id, m'.get (m.next + id) = (l[id]?).join
  | [], m, k, h, hf => ⟨m, h, rfl, fun _ _ => rfl, fun id => by simpa using hf (m.next + id) (by omega)⟩
  | none :: l, m, k, h, hf => by
    obtain ⟨m', h1, h2, h3, h4⟩ := memFill_holds l ⟨m.next + 1, m.tb⟩ k h fun id hid => hf id (by dsimp only at hid; omega)
    refine ⟨m', h1, by rw [h2]; simp; omega, fun id hid => h3 id (by dsimp only; omega), fun id => ?_⟩
    cases id with
    | zero =>
      rw [h3 (m.next + 0) (by dsimp only; omega)]
      simpa [Mem.get] using hf m.next (Nat.le_refl _)
    | succ id =>
      have := h4 id
      dsimp only at this
      rw [show m.next + (id + 1) = m.next + 1 + id by omega, this]
      simp
  | some B :: l, m, k, h, hf => by
    obtain ⟨m1, hp, h0⟩ := Mem.push_holds (k := fun m _ => memFill l m k) h
    obtain ⟨m', h1, h2, h3, h4⟩ := memFill_holds l m1 k h0 fun id hid => by
      rw [hp.2] at hid
      rw [hp.1 id, if_neg (by omega)]
      exact hf id (by omega)
    rw [hp.2] at h2 h3 h4
    refine ⟨m', h1, by rw [h2]; simp; omega, fun id hid => ?_, fun id => ?_⟩
    · rw [h3 id (by omega), hp.1 id, if_neg (by omega)]
    · cases id with
      | zero =>
        rw [h3 (m.next + 0) (by omega), hp.1]
        simp
      | succ id =>
        rw [show m.next + (id + 1) = m.next + 1 + id by omega, h4 id]
        simp
end Go.Sx
set_option linter.unusedSimpArgs false
set_option linter.unusedVariables false
namespace Go.Sx
open Go.RowKit

/-- The loop's body is entered. -/
def enter : List Item → List Item
  | .code (.loop b) :: k => .code b :: .inLoop b :: k
  | .inLoop b :: k => .code b :: .inLoop b :: k
  | x => x

/-- The loops of a code, each with what comes behind it, as they stand when entered. -/
def loopsIn : Code → List Item → List (List Item)
  | .seq a b, k => loopsIn a (.code b :: k) ++ loopsIn b k
  | .cond _ x y, k => loopsIn x k ++ loopsIn y k
  | .block id b, k => loopsIn b (.inBlock id :: k)
  | .scope b, k => loopsIn b (.inScope b :: k)
  | .loop b, k => (.code b :: .inLoop b :: k) :: loopsIn b (.inLoop b :: k)
  | _, _ => []

def fnOf (P : Program) (f : FuncId) : Func := match P.funcs[f]? with
  | some fn => fn
  | none => default
def bodyOf (P : Program) (f : FuncId) : Code := match (fnOf P f).body with
  | some b => b
  | none => .skip
/-- The loop of that number in a function. -/
def loopOf (P : Program) (f : FuncId) (i : Nat) : List Item := ((loopsIn (bodyOf P f) [])[i]?).getD []

/-- From a state to the next head of a loop, or to the end. -/
noncomputable def seg (E : Env) (n : Nat) (fn : Func) (keep : List Item → List Bool × List Bool) (items : List Item) (p : Plan) (slots : List SV) (boxes : List (Option Box)) : Tree Stop :=
  Fr.make slots.length slots fun fr => memFill boxes ⟨0, .e⟩ fun m => exec E n items p fr m fun o => match o with
    | .ret _ fr m => results E fn m fr fun v => .leaf (.done v)
    | .stop items fr m => .leaf (.at (enter items) fr.size (viewS fr (keep items).1 0) (viewM m (keep items).2 0))

/-- From such a state the code comes to its end, with this value. -/
def Runs (P : Program) (fn : Func) (v : SV) (items : List Item) (slots : List SV) (boxes : List (Option Box)) : Prop :=
  ∀ fr m, Canon slots boxes fr m → ∃ p fr' m', Reach P items fr m (.ret p fr' m') ∧
    ∀ w0 R0 ρ w a, SRel w0 R0 ρ w fr' m' a → ∃ u, (Go.results fn a.tmps).run P w = .ok u w ∧ Rep (RO w0 R0 ρ w m') ρ m'.next w v u

theorem tbSet_ex {β : Type} : ∀ (i : Nat) (t : Tb β) (v : Option β), ∃ t', TbSet t i v t' := by
  intro i
  induction i using Nat.strongRecOn with
  | ind i ih =>
    intro t v
    obtain ⟨l, x, r, hg⟩ : ∃ l x r, ∀ k, t.get k = (Tb.n l x r).get k := by
      cases t with
      | n l x r => exact ⟨l, x, r, fun _ => rfl⟩
      | e =>
        refine ⟨.e, none, .e, fun k => ?_⟩
        cases k with
        | zero => rfl
        | succ j =>
          rw [Tb.get_n_succ]
          by_cases h : j % 2 = 0
          · rw [Tb.pick_even h]; rfl
          · rw [Tb.pick_odd h]; rfl
    cases i with
    | zero =>
      refine ⟨.n l v r, fun k => ?_⟩
      cases k with
      | zero => rfl
      | succ j => rw [if_neg (by omega), hg]; rfl
    | succ i =>
      by_cases hi : i % 2 = 0
      · obtain ⟨l', hl⟩ := ih (i / 2) (by omega) l v
        refine ⟨.n l' x r, fun k => ?_⟩
        cases k with
        | zero => rw [if_neg (by omega), hg]; rfl
        | succ j =>
          rw [hg, Tb.get_n_succ, Tb.get_n_succ]
          by_cases h : j % 2 = 0
          · rw [Tb.pick_even h, Tb.pick_even h, hl]
            by_cases e : j = i
            · subst e; simp
            · rw [if_neg (by omega), if_neg (by omega)]
          · rw [Tb.pick_odd h, Tb.pick_odd h, if_neg (by omega)]
      · obtain ⟨r', hr⟩ := ih (i / 2) (by omega) r v
        refine ⟨.n l x r', fun k => ?_⟩
        cases k with
        | zero => rw [if_neg (by omega), hg]; rfl
        | succ j =>
          rw [hg, Tb.get_n_succ, Tb.get_n_succ]
          by_cases h : j % 2 = 0
          · rw [Tb.pick_even h, Tb.pick_even h, if_neg (by omega)]
          · rw [Tb.pick_odd h, Tb.pick_odd h, hr]
            by_cases e : j = i
            · subst e; simp
            · rw [if_neg (by omega), if_neg (by omega)]

theorem Tree.holds_mono {α : Type} {L L' : α → Prop} (h : ∀ x, L x → L' x) : ∀ t : Tree α, t.holds L → t.holds L'
  | .leaf _, k => h _ k
  | .node _ t f, k => ⟨fun hb => t.holds_mono h (k.1 hb), fun hb => f.holds_mono h (k.2 hb)⟩
  | .req _ t, k => ⟨k.1, t.holds_mono h k.2⟩
  | .fail _, k => k

theorem Canon.of {slots : List SV} {boxes : List (Option Box)} : ∃ fr m, Canon slots boxes fr m := by
  have hS : ∀ (l : List SV) (t : Tb SV) (i : Nat), ∃ t' : Tb SV, ∀ k, t'.get k = if i ≤ k ∧ k < i + l.length then l[k - i]? else t.get k := by
    intro l
    induction l with
    | nil => exact fun t i => ⟨t, fun k => by rw [if_neg (by simp)]⟩
    | cons x l ih =>
      intro t i
      obtain ⟨t1, h1⟩ := ih t (i + 1)
      have : ∃ t', TbSet t1 i (some x) t' := tbSet_ex i t1 (some x)
      obtain ⟨t', ht'⟩ := this
      refine ⟨t', fun k => ?_⟩
      rw [ht' k]
      by_cases hk : k = i
      · subst hk; simp
      · rw [if_neg hk, h1 k]
        by_cases h2 : i + 1 ≤ k ∧ k < i + 1 + l.length
        · rw [if_pos h2, if_pos (by simp; omega)]
          rw [show k - i = (k - (i + 1)) + 1 by omega]
          simp
        · rw [if_neg h2, if_neg (by simp; omega)]
  have hB : ∀ (l : List (Option Box)) (t : Tb Box) (i : Nat), ∃ t' : Tb Box, ∀ k, t'.get k = if i ≤ k ∧ k < i + l.length then (l[k - i]?).join else t.get k := by
    intro l
    induction l with
    | nil => exact fun t i => ⟨t, fun k => by rw [if_neg (by simp)]⟩
    | cons x l ih =>
      intro t i
      obtain ⟨t1, h1⟩ := ih t (i + 1)
      obtain ⟨t', ht'⟩ := tbSet_ex i t1 x
      refine ⟨t', fun k => ?_⟩
      rw [ht' k]
      by_cases hk : k = i
      · subst hk; simp
      · rw [if_neg hk, h1 k]
        by_cases h2 : i + 1 ≤ k ∧ k < i + 1 + l.length
        · rw [if_pos h2, if_pos (by simp; omega)]
          rw [show k - i = (k - (i + 1)) + 1 by omega]
          simp
        · rw [if_neg h2, if_neg (by simp; omega)]
  obtain ⟨t, ht⟩ := hS slots .e 0
  obtain ⟨u, hu⟩ := hB boxes .e 0
  refine ⟨⟨slots.length, t⟩, ⟨boxes.length, u⟩, ⟨rfl, fun k => ?_, rfl, fun k => ?_⟩⟩
  · unfold Fr.get
    rw [ht k, List.getD_eq_getElem?_getD]
    by_cases h : k < slots.length
    · rw [if_pos (by omega)]; simp [h]
    · rw [if_neg (by omega)]
      rw [Tb.get_e, List.getElem?_eq_none (by omega)]; rfl
  · unfold Mem.get
    rw [hu k]
    by_cases h : k < boxes.length
    · rw [if_pos (by omega)]; simp
    · rw [if_neg (by omega)]
      rw [Tb.get_e, List.getElem?_eq_none (by omega)]; rfl

theorem Canon.swap {slots : List SV} {boxes : List (Option Box)} {fr fr' : Fr} {m m' : Mem} (h : Canon slots boxes fr m) (h' : Canon slots boxes fr' m') {w0 : World} {R0 : Nat → Prop} {ρ : Rho} {w : World} {a : Act} (hs : SRel w0 R0 ρ w fr m a) :
    SRel w0 R0 ρ w fr' m' a ∧ (∀ b, RO w0 R0 ρ w m b ↔ RO w0 R0 ρ w m' b) := by
  have hg : ∀ id, m'.get id = m.get id := fun id => by rw [h.box, h'.box]
  have hn : m'.next = m.next := by rw [h.next, h'.next]
  have hro : RO w0 R0 ρ w m' = RO w0 R0 ρ w m := by
    funext b
    unfold RO
    simp only [hg]
  obtain ⟨h1, h2, h3⟩ := hs
  refine ⟨⟨⟨h1.below, fun id B hB => ?_, fun id B hB => h1.lo id B (by rw [← hg]; exact hB), fun id B hB => h1.hi id B (by rw [← hg]; exact hB), fun id id' B B' hB hB' => h1.inj id id' B B' (by rw [← hg]; exact hB) (by rw [← hg]; exact hB'), fun id B hB => ?_⟩, ⟨?_, fun t => ?_⟩, h3⟩, fun b => by rw [hro]⟩
  · rw [hn]; exact h1.lt id B (by rw [← hg]; exact hB)
  · rw [hro, hn]; exact h1.box id B (by rw [← hg]; exact hB)
  · rw [h'.size, ← h.size]; exact h2.1
  · rw [hro, hn, h'.get, ← h.get]; exact h2.2 t

theorem Reach.swap {P : Program} {items : List Item} {slots : List SV} {boxes : List (Option Box)} {fr fr' : Fr} {m m' : Mem} {out : Out} (h : Canon slots boxes fr m) (h' : Canon slots boxes fr' m') (hr : Reach P items fr' m' out) : Reach P items fr m out := by
  intro w0 R0 ρ w a hs b cs
  obtain ⟨k1, k2⟩ := h.swap h' hs
  have hn : m'.next = m.next := by rw [h.next, h'.next]
  have := hr w0 R0 ρ w a k1 b cs
  cases out with
  | ret p fr2 m2 =>
    obtain ⟨ρ2, w2, a2, todo, g1, g2, g3⟩ := this
    exact ⟨ρ2, w2, a2, todo, g1, ⟨by rw [← hn]; exact g2.le, fun id hid => g2.same id (by rw [hn]; exact hid), fun b hb => g2.keep b ((k2 b).mp hb)⟩, g3⟩
  | stop it fr2 m2 =>
    obtain ⟨ρ2, w2, a2, g1, g2, g3⟩ := this
    exact ⟨ρ2, w2, a2, g1, ⟨by rw [← hn]; exact g2.le, fun id hid => g2.same id (by rw [hn]; exact hid), fun b hb => g2.keep b ((k2 b).mp hb)⟩, g3⟩

/-- One segment: to the end, or to a state from which the code comes to its end. -/
theorem runs_seg {P : Program} {E : Env} (hK : Known P E) {n : Nat} {fn : Func} {keep : List Item → List Bool × List Bool} {items : List Item} {p : Plan} {slots : List SV} {boxes : List (Option Box)} {v : SV}
    (h : (seg E n fn keep items p slots boxes).holds fun o => match o with
      | .done v' => v' = v
      | .at items' size slots' boxes' => slots'.length = size ∧ boxes.length ≤ boxes'.length ∧ underL boxes'.length slots' = true ∧ underO boxes'.length boxes' = true ∧ Runs P fn v items' slots' boxes') : Runs P fn v items slots boxes := by
  intro fr0 m0 hc0
  unfold seg at h
  obtain ⟨fr, h1, h2, h3, h4⟩ := make_holds h
  obtain ⟨m, h5, h6, h7, h8⟩ := memFill_holds boxes ⟨0, .e⟩ _ h1 fun id _ => rfl
  have hc : Canon slots boxes fr m := ⟨h2, h4, by rw [h6]; simp, fun id => by simpa using h8 id⟩
  obtain ⟨out, h9, h10⟩ := exec_ok hK.e hK.s hK.mix n _ _ _ _ _ _ h5
  cases out with
  | ret p' fr' m' =>
    dsimp only at h9
    obtain ⟨v', k1, k2⟩ := results_holds hK.e h9
    obtain rfl : v' = v := k1
    exact ⟨p', fr', m', h10.swap hc0 hc, k2⟩
  | stop items' fr' m' =>
    dsimp only at h9
    have h10 : Reach P items fr m (.stop (enter items') fr' m') := by
      refine h10.trans ?_
      unfold enter
      split
      · exact Reach.step fun b a cs w _ => step_loop
      · exact Reach.step fun b a cs w _ => step_inLoop
      · exact Reach.refl _ _ _
    obtain ⟨k1, k2, k3, k4, k5⟩ := h9
    obtain ⟨fr2, m2, hc2⟩ := Canon.of (slots := viewS fr' (keep items').1 0) (boxes := viewM m' (keep items').2 0)
    obtain ⟨p', fr3, m3, g1, g2⟩ := k5 fr2 m2 hc2
    refine ⟨p', fr3, m3, Reach.swap hc0 hc (Reach.trans (Reach.weaken h10 hc2 ?_ (fun i x hx => by simpa using viewS_get fr' _ 0 i x hx) (fun i B hB => by simpa using viewM_get m' _ 0 i B hB) k3 k4 (by rw [hc.next]; exact k2)) g1), g2⟩
    exact k1

/-- Descent: from every state that keeps the law, the code comes to its end. -/
theorem runs_of {P : Program} {E : Env} (hK : Known P E) {n : Nat} {fn : Func} {v : SV} {σ : Type} (inv : σ → Prop) (μ : σ → Nat) (keep : List Item → List Bool × List Bool) (it : σ → List Item) (sl : σ → List SV) (bx : σ → List (Option Box)) (pl : σ → Plan)
    (h : ∀ s, inv s → (seg E n fn keep (it s) (pl s) (sl s) (bx s)).holds fun o => match o with
      | .done v' => v' = v
      | .at items' size slots' boxes' => ∃ s', inv s' ∧ μ s' < μ s ∧ items' = it s' ∧ slots' = sl s' ∧ boxes' = bx s' ∧ (sl s').length = size ∧ (bx s).length ≤ (bx s').length ∧ underL (bx s').length (sl s') = true ∧ underO (bx s').length (bx s') = true) :
    ∀ s, inv s → Runs P fn v (it s) (sl s) (bx s) := by
  have : ∀ k s, μ s < k → inv s → Runs P fn v (it s) (sl s) (bx s) := by
    intro k
    induction k with
    | zero => exact fun s hk => absurd hk (Nat.not_lt_zero _)
    | succ k ih =>
      intro s hk hs
      refine runs_seg hK (E := E) (n := n) (keep := keep) (p := pl s) (Tree.holds_mono (fun o ho => ?_) _ (h s hs))
      cases o with
      | done v' => exact ho
      | «at» items' size slots' boxes' =>
        obtain ⟨s', a1, a2, rfl, rfl, rfl, a6, a7, a8, a9⟩ := ho
        exact ⟨a6, a7, a8, a9, ih s' (by omega) a1⟩
  exact fun s hs => this _ s (Nat.lt_succ_self _) hs

theorem pad_get (l : List SV) (k t : Nat) : (l ++ List.replicate k SV.undef).getD t .undef = l.getD t .undef := by
  simp only [List.getD_eq_getElem?_getD]
  by_cases h : t < l.length
  · rw [List.getElem?_append_left h]
  · rw [List.getElem?_append_right (by omega), List.getElem?_eq_none (l := l) (by omega)]
    cases hx : (List.replicate k SV.undef)[t - l.length]? with
    | none => rfl
    | some x =>
      have := List.eq_of_mem_replicate (List.mem_of_getElem? hx)
      subst this; rfl

theorem scall_of_runs {P : Program} {f : FuncId} {fn : Func} {body : Code} {args : List SV} {v : SV} (hf : P.funcs[f]? = some fn) (hb : fn.body = some body) (hn : (fn.name == "runtime.NumGoroutine") = false) (hd : dataL args = true) (hvd : v.data = true)
    (hl : args.length ≤ fn.ntmps) (h : Runs P fn v [.code body] (args ++ List.replicate (fn.ntmps - args.length) .undef) []) : SCall P f args v := by
  intro m w0 R0 ρ w vs hm hvs
  obtain ⟨fr, mc0, hc⟩ := Canon.of (slots := args ++ List.replicate (fn.ntmps - args.length) .undef) (boxes := [])
  have hc' : Canon (args ++ List.replicate (fn.ntmps - args.length) .undef) [] fr ⟨0, .e⟩ := ⟨hc.size, hc.get, rfl, fun id => rfl⟩
  obtain ⟨p', fr', mc, h6, h8⟩ := h fr ⟨0, .e⟩ hc'
  rw [callFunc_enter hf hb hn]
  obtain ⟨o1, o2⟩ := own_mem hm ρ
  have hfr := frame_rel (size := fn.ntmps) (by rw [hc.size]; simp; omega) (.inr hl) (fun t => by rw [hc.get, pad_get]) (RepL.data (R' := RO w (RO w0 R0 ρ w m) ρ w ⟨0, .e⟩) (ρ' := ρ) (n' := 0) o2 args vs hd hvs)
  refine Calls.mono (calls_of_reach hf hb h6 h8 o1 hfr) fun e w' ⟨u, he, ρ', g1, g2, g3⟩ => ⟨u, he, ?_⟩
  have hst := Hand.start hm g1
  obtain ⟨k1, k2⟩ := hst.finish hm g1
  exact ⟨ρ, k1, k2, Rep.data (fun b hb => hst.ro b (.inr hb)) v u hvd g3⟩

/-- A whole call: its own first segment, then descent. -/
theorem scall_loops {P : Program} {f : FuncId} {args : List SV} {v : SV} (hd : dataL args = true) (hvd : v.data = true)
    (hf : (match P.funcs[f]? with
      | some fn => fn.body.isSome && !(fn.name == "runtime.NumGoroutine") && Nat.ble args.length fn.ntmps
      | none => false) = true)
    (h : Runs P (fnOf P f) v [.code (bodyOf P f)] (args ++ List.replicate ((fnOf P f).ntmps - args.length) .undef) []) : SCall P f args v := by
  unfold fnOf bodyOf at h
  unfold fnOf at h
  cases hx : P.funcs[f]? with
  | none => rw [hx] at hf; cases hf
  | some fn =>
    rw [hx] at hf h
    dsimp only at hf h
    simp only [Bool.and_eq_true, Bool.not_eq_true'] at hf
    obtain ⟨⟨h1, h2⟩, h3⟩ := hf
    obtain ⟨body, hb⟩ := Option.isSome_iff_exists.mp h1
    rw [hb] at h
    exact scall_of_runs hx hb h2 hd hvd (Nat.le_of_ble_eq_true h3) h
end Go.Sx
