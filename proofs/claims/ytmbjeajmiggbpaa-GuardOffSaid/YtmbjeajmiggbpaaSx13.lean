/-
  Sx13: a region of quiet operations, in whatever order the tape picks: one walk of the text's order serves every order.
-/
import Derived.Test.YtmbjeajmiggbpaaSx12
set_option linter.unusedSimpArgs false
set_option linter.unusedVariables false
namespace Go.Sx
open Go.RowKit
section
variable {P : Program} {E : Env} {α : Type}

/-- A walk of the text's order, by index: the frame ahead of each operation, and what each leaves. -/
structure Walk (P : Program) (all : List Oper) (m : Mem) (fr fr' : Fr) (frs : Nat → Fr) (vals : Nat → SV) : Prop where
  first : frs 0 = fr
  last : frs all.length = fr'
  step : ∀ i o, all[i]? = some o → StepOK P all o (frs i) m (vals i) m
  next : ∀ i o, all[i]? = some o → FSet (frs i) o.dst (vals i) (frs (i + 1))

theorem Chain.walk {all0 : List Oper} {m : Mem} : ∀ {ops : List Oper} {fr fr' : Fr} {m1 m2 : Mem}, Chain P all0 ops fr m1 fr' m2 → (∀ (fr1 : Fr) (m1 : Mem) o v m', StepOK P all0 o fr1 m1 v m' → True) → True := fun _ _ => trivial

/-- The same with the memory fixed. -/
inductive ChainQ (P : Program) (all : List Oper) (m : Mem) : List Oper → Fr → Fr → Prop where
  | nil (fr : Fr) : ChainQ P all m [] fr fr
  | cons {o : Oper} {rest : List Oper} {fr fr1 fr' : Fr} {v : SV} (h : StepOK P all o fr m v m) (hf : FSet fr o.dst v fr1) (k : ChainQ P all m rest fr1 fr') : ChainQ P all m (o :: rest) fr fr'

theorem execOps_chainQ (hE : EOK P E) {call : CallK α} (hcall : CallOK P true call) {all : List Oper} {k : OpsK α} {L : α → Prop} : ∀ (ops : List Oper) (p : Plan) (fr : Fr) (m : Mem), (execOps E (quiet E) call all ops k p fr m).holds L →
    ∃ p' fr', (k p' fr' m).holds L ∧ ChainQ P all m ops fr fr'
  | [], p, fr, m, h => ⟨p, fr, h, .nil fr⟩
  | o :: rest, p, fr, m, h => by
    change (oneOp E (quiet E) call all o (execOps E (quiet E) call all rest k) p fr m).holds L at h
    obtain ⟨p1, v, fr1, m1, h1, h2, h3, h4⟩ := oneOp_holds hE hcall (fun _ _ h => h) h
    obtain rfl := h4 rfl
    obtain ⟨p', fr', h5, h6⟩ := execOps_chainQ hE hcall rest p1 fr1 m1 h1
    exact ⟨p', fr', h5, .cons h2 h3 h6⟩

theorem ChainQ.index {all : List Oper} {m : Mem} : ∀ {ops : List Oper} {fr fr' : Fr}, ChainQ P all m ops fr fr' → ∃ (frs : Nat → Fr) (vals : Nat → SV), frs 0 = fr ∧ frs ops.length = fr' ∧ (∀ i o, ops[i]? = some o → StepOK P all o (frs i) m (vals i) m) ∧ (∀ i o, ops[i]? = some o → FSet (frs i) o.dst (vals i) (frs (i + 1))) := by
  intro ops fr fr' h
  induction h with
  | nil fr => exact ⟨fun _ => fr, fun _ => .undef, rfl, rfl, fun i o h => by simp at h, fun i o h => by simp at h⟩
  | @cons o rest fr fr1 fr' v hst hf k ih =>
    obtain ⟨frs, vals, h1, h2, h3, h4⟩ := ih
    refine ⟨fun i => Nat.casesOn i fr frs, fun i => Nat.casesOn i v vals, rfl, h2, fun i o' hi => ?_, fun i o' hi => ?_⟩
    · cases i with
      | zero => simp at hi; subst hi; exact hst
      | succ i => exact h3 i o' (by simpa using hi)
    · cases i with
      | zero => simp at hi; subst hi; dsimp only; rw [h1]; exact hf
      | succ i => exact h4 i o' (by simpa using hi)

theorem ChainQ.toWalk {all : List Oper} {m : Mem} {fr fr' : Fr} (h : ChainQ P all m all fr fr') : ∃ frs vals, Walk P all m fr fr' frs vals :=
  let ⟨frs, vals, h1, h2, h3, h4⟩ := h.index
  ⟨frs, vals, h1, h2, h3, h4⟩

/-! ### Which value a slot holds when the operations of a set have been carried out -/

noncomputable def cur (all : List Oper) (fr : Fr) (vals : Nat → SV) (S : Nat → Bool) : Nat → Nat → SV
  | 0, t => fr.get t
  | n + 1, t => if S n = true ∧ (all[n]?).bind (·.dst) = some t then vals n else cur all fr vals S n t

theorem cur_walk {all : List Oper} {m : Mem} {fr fr' : Fr} {frs : Nat → Fr} {vals : Nat → SV} (hw : Walk P all m fr fr' frs vals) : ∀ (i : Nat), i ≤ all.length → ∀ t, (frs i).get t = cur all fr vals (fun _ => true) i t
  | 0, _, t => by rw [hw.first]; rfl
  | i + 1, hi, t => by
    have hlt : i < all.length := hi
    have ho : all[i]? = some all[i] := List.getElem?_eq_getElem hlt
    rw [(hw.next i _ ho).2.2 t, cur_walk hw i (by omega) t]
    simp only [cur, ho, Option.bind_some, true_and]

theorem cur_same {all : List Oper} {fr : Fr} {vals : Nat → SV} {S S' : Nat → Bool} {t : Nat} : ∀ (i : Nat), (∀ j, j < i → (all[j]?).bind (·.dst) = some t → S j = S' j) → cur all fr vals S i t = cur all fr vals S' i t
  | 0, _ => rfl
  | i + 1, h => by
    have ih := cur_same (fr := fr) (vals := vals) i (fun j hj => h j (by omega))
    simp only [cur, ih]
    by_cases hd : (all[i]?).bind (·.dst) = some t
    · rw [h i (by omega) hd]
    · simp [hd]

theorem cur_past {all : List Oper} {fr : Fr} {vals : Nat → SV} {S : Nat → Bool} {t i : Nat} : ∀ (n : Nat), i ≤ n → (∀ j, i ≤ j → j < n → (all[j]?).bind (·.dst) = some t → S j = false) → cur all fr vals S n t = cur all fr vals S i t
  | 0, hi, _ => by rw [show i = 0 by omega]
  | n + 1, hi, h => by
    by_cases he : i = n + 1
    · rw [he]
    · have ih := cur_past (fr := fr) (vals := vals) n (by omega) (fun j h1 h2 => h j h1 (by omega))
      simp only [cur]
      by_cases hd : (all[n]?).bind (·.dst) = some t
      · rw [h n (by omega) (by omega) hd]; simpa using ih
      · simp [hd]; exact ih

/-! ### The look at the region -/

/-- Of two operations the later waits for the earlier, or they are apart; and each waits for earlier ones alone. -/
structure Indep (all : List Oper) : Prop where
  pair : ∀ i j oi oj, i < j → all[i]? = some oi → all[j]? = some oj → (∃ e ∈ oj.after, Region.binds .any e = true ∧ e.on = i) ∨ oi.apart all.toArray oj = true
  back : ∀ j oj, all[j]? = some oj → ∀ e ∈ oj.after, Region.binds .any e = true → e.on < j

theorem indep_of_lexB {all : List Oper} (h : Region.lexB .any all.toArray = true) : Indep all := by
  simp only [Region.lexB, Bool.and_eq_true] at h
  have key : ∀ (f k : Nat) (listed : Array Bool), k + f = all.length → (∀ i, i < all.length → listed.getD i true = decide (i < k)) → listed.size = all.length → Region.lexFrom .any all.toArray f k listed = true →
      ∀ i, k ≤ i → i < all.length → (∀ oi, all[i]? = some oi → ∀ e ∈ oi.after, Region.binds .any e = true → e.on < i) ∧ ∀ j oi oj, i < j → all[i]? = some oi → all[j]? = some oj → (∃ e ∈ oj.after, Region.binds .any e = true ∧ e.on = i) ∨ oi.apart all.toArray oj = true := by
    intro f
    induction f with
    | zero => intro k listed hk hl hsz h i h1 h2; omega
    | succ f ih =>
      intro k listed hk hl hsz h i h1 h2
      simp only [Region.lexFrom, Bool.and_eq_true] at h
      obtain ⟨⟨hr, hf⟩, hB⟩ := h
      by_cases hik : i = k
      · subst hik
        have hr' : i ∈ Region.ready .any all.toArray listed := by simpa using hr
        obtain ⟨_, o, ho, hall⟩ := mem_ready.1 hr'
        have hoi : all[i]? = some o := by simpa using ho
        constructor
        · intro oi hi e he hb
          rw [hoi] at hi; injection hi with hi; subst hi
          have := hall e he hb
          have hlt : e.on < all.length := by
            rcases Nat.lt_or_ge e.on all.length with h | h
            · exact h
            · rw [Array.getD_eq_getD_getElem?, Array.getElem?_eq_none (by omega)] at this; simp at this
          have h3 := hl e.on hlt
          have h4 : listed.getD e.on true = true := by
            rw [Array.getD_eq_getD_getElem?] at this ⊢
            rw [Array.getElem?_eq_getElem (by omega)] at this ⊢
            simpa using this
          rw [h4] at h3
          simpa using h3.symm
        · intro j oi oj hij hi hj
          rw [hoi] at hi; injection hi with hi; subst hi
          have hjl : j < all.length := (List.getElem?_eq_some_iff.1 hj).1
          by_cases hw : ∃ e ∈ oj.after, Region.binds .any e = true ∧ e.on = i
          · exact .inl hw
          · refine .inr (Region.free_spec ho hf j oj (by simpa using hj) (by omega) ?_ (fun e he hb heq => hw ⟨e, he, hb, heq⟩))
            rw [hl j hjl]; simp; omega
      · refine ih (k + 1) _ (by omega) (fun j hj => ?_) (by simpa using hsz) hB i (by omega) h2
        have h3 := hl j hj
        by_cases hjk : k = j
        · subst hjk
          rw [Array.getD_eq_getD_getElem?, Array.getElem?_setIfInBounds]
          simp [hsz, hj]
        · rw [getD_set_ne true hjk, h3]
          congr 1
          rw [eq_iff_iff]; omega
  have hk := key all.length 0 (Array.replicate all.length false) (by omega) (fun i hi => by simp [hi]) (by simp) (by simpa using h.2)
  refine ⟨fun i j oi oj hij hi hj => ?_, fun j oj hj => ?_⟩
  · exact (hk i (Nat.zero_le _) (List.getElem?_eq_some_iff.1 hi).1).2 j oi oj hij hi hj
  · exact (hk j (Nat.zero_le _) (List.getElem?_eq_some_iff.1 hj).1).1 oj hj

/-! ### Whatever order is picked -/

def unlisted (listed : Array Bool) : Nat → Nat
  | 0 => 0
  | n + 1 => unlisted listed n + if listed.getD n true = true then 0 else 1

theorem unlisted_set {listed : Array Bool} {i : Nat} : ∀ (n : Nat), i < n → listed.getD i true = false → i < listed.size → unlisted (listed.setIfInBounds i true) n + 1 = unlisted listed n
  | 0, h, _, _ => by omega
  | n + 1, h, hf, hs => by
    by_cases hin : i = n
    · subst hin
      have h1 : (listed.setIfInBounds i true).getD i true = true := by simp [Array.getD_eq_getD_getElem?, Array.getElem?_setIfInBounds, hs]
      have h2 : ∀ k, k ≤ i → unlisted (listed.setIfInBounds i true) k = unlisted listed k := by
        intro k
        induction k with
        | zero => intro _; rfl
        | succ k ih =>
          intro hk
          simp only [unlisted, ih (by omega)]
          rw [getD_set_ne true (by omega)]
      simp only [unlisted, h1, hf, h2 i (Nat.le_refl _)]
      simp
    · have ih := unlisted_set n (by omega) hf hs
      simp only [unlisted]
      rw [getD_set_ne true hin]
      omega

theorem unlisted_zero {listed : Array Bool} : ∀ (n : Nat), unlisted listed n = 0 → ∀ i, i < n → listed.getD i true = true
  | 0, _, i, hi => by omega
  | n + 1, h, i, hi => by
    simp only [unlisted] at h
    by_cases hin : i = n
    · subst hin
      by_cases hc : listed.getD i true = true
      · exact hc
      · rw [if_neg hc] at h; omega
    · exact unlisted_zero n (by omega) i (by omega)

theorem looks_operand {ops : Array Oper} {o : Oper} {t : Tmp} (h : .tmp t ∈ o.op.operands) : t ∈ o.looksAt ops :=
  List.mem_append_left _ (List.mem_filterMap.2 ⟨.tmp t, by simpa using h, rfl⟩)
theorem looks_guard {ops : Array Oper} {o : Oper} {g : Nat} {want : Bool} {t : Tmp} (h : o.guard = some (g, want)) (hd : (ops[g]?).bind (·.dst) = some t) : t ∈ o.looksAt ops :=
  List.mem_append_right _ (by rw [h]; dsimp only; rw [hd]; simp)

theorem any_order {w0 : World} {R0 : Nat → Prop} {all : List Oper} {m : Mem} {fr fr' : Fr} {frs : Nat → Fr} {vals : Nat → SV} (hw : Walk P all m fr fr' frs vals) (hi : Indep all) (hns : Region.noSelect all.toArray = true) {Q : Exit → Act → World → Prop} {Ψ : Rho → World → Prop}
    (hΨ : ∀ ρ w ρ' w', Ψ ρ w → MExt w0 R0 ρ w m ρ' w' m → Ψ ρ' w') (hQ : ∀ ρ w a, SRel w0 R0 ρ w fr' m a → Ψ ρ w → Q .normal a w) : ∀ (fuel : Nat) (listed : Array Bool) (ρ : Rho) (w : World) (a : Act), listed.size = all.length → unlisted listed all.length = fuel →
    (∀ j oj, all[j]? = some oj → listed.getD j true = true → ∀ e ∈ oj.after, Region.binds .any e = true → listed.getD e.on false = true) →
    MRel w0 R0 ρ w m → fr.size = a.tmps.size → a.defers = [] → (∀ t, Rep (RO w0 R0 ρ w m) ρ m.next w (cur all fr vals (fun i => listed.getD i true) all.length t) (a.tmps.getD t Go.undef)) → Ψ ρ w →
    wpAny P .any all.toArray Q fuel listed a w := by
  have hsize : ∀ i, i ≤ all.length → (frs i).size = fr.size := by
    intro i
    induction i with
    | zero => intro _; rw [hw.first]
    | succ i ih => intro h; rw [(hw.next i _ (List.getElem?_eq_getElem (by omega))).1]; exact ih (by omega)
  have done : ∀ (listed : Array Bool) (ρ : Rho) (w : World) (a : Act), listed.size = all.length → MRel w0 R0 ρ w m → fr.size = a.tmps.size → a.defers = [] → (∀ t, Rep (RO w0 R0 ρ w m) ρ m.next w (cur all fr vals (fun i => listed.getD i true) all.length t) (a.tmps.getD t Go.undef)) → Ψ ρ w → (∀ i, i < all.length → listed.getD i true = true) → Q .normal a w := by
    intro listed ρ w a hsz hm hs hd hrep hps hall
    refine hQ ρ w a ⟨hm, ⟨by rw [← hw.last, hsize _ (Nat.le_refl _)]; exact hs, fun t => ?_⟩, hd⟩ hps
    have e : fr'.get t = cur all fr vals (fun i => listed.getD i true) all.length t := by
      rw [← hw.last, cur_walk hw _ (Nat.le_refl _)]
      exact cur_same _ fun j hj _ => (hall j hj).symm
    rw [e]; exact hrep t
  -- where none is ready all are listed
  have none_ready : ∀ (listed : Array Bool), listed.size = all.length → Region.ready .any all.toArray listed = [] → ∀ i, i < all.length → listed.getD i true = true := by
    intro listed hsz hr i
    induction i using Nat.strongRecOn with
    | _ i ih =>
      intro hil
      rcases Bool.eq_false_or_eq_true (listed.getD i true) with h | h
      · exact h
      · have : i ∈ Region.ready .any all.toArray listed := by
          rw [mem_ready]
          refine ⟨h, all[i], by simp [hil], fun e he hb => ?_⟩
          have hlt := hi.back i _ (List.getElem?_eq_getElem hil) e he hb
          have h1 := ih e.on hlt (by omega)
          rw [Array.getD_eq_getD_getElem?, Array.getElem?_eq_getElem (by omega)] at h1 ⊢
          simpa using h1
        rw [hr] at this
        cases this
  intro fuel
  induction fuel with
  | zero =>
    intro listed ρ w a hsz hun hcl hm hs hd hrep hps
    have hall := unlisted_zero _ hun
    refine ⟨?_, done listed ρ w a hsz hm hs hd hrep hps hall⟩
    apply List.eq_nil_iff_forall_not_mem.2
    intro i hir
    obtain ⟨h1, o, ho, _⟩ := mem_ready.1 hir
    have hil : i < all.length := by
      have : all[i]? = some o := by simpa using ho
      exact (List.getElem?_eq_some_iff.1 this).1
    rw [hall i hil] at h1; cases h1
  | succ fuel ih =>
    intro listed ρ w a hsz hun hcl hm hs hd hrep hps
    refine ⟨fun hr => done listed ρ w a hsz hm hs hd hrep hps (none_ready listed hsz hr), fun i hir => ?_⟩
    obtain ⟨hl, o, ho, hdeps⟩ := mem_ready.1 hir
    have hoi : all[i]? = some o := by simpa using ho
    have hil : i < all.length := (List.getElem?_eq_some_iff.1 hoi).1
    -- whoever writes a slot that i looks at, ahead of i, is listed; whoever writes it behind i is not
    have before : ∀ j oj, all[j]? = some oj → j < i → oj.apart all.toArray o = false → listed.getD j true = true := by
      intro j oj hj hji hap
      rcases hi.pair j i oj o hji hj hoi with ⟨e, he, hb, heq⟩ | h
      · have := hdeps e he hb
        rw [heq, Array.getD_eq_getD_getElem?] at this
        have hjl : j < listed.size := by rw [hsz]; exact (List.getElem?_eq_some_iff.1 hj).1
        rw [Array.getElem?_eq_getElem hjl] at this
        rw [Array.getD_eq_getD_getElem?, Array.getElem?_eq_getElem hjl]
        simpa using this
      · rw [hap] at h; cases h
    have behind : ∀ j oj, all[j]? = some oj → i < j → o.apart all.toArray oj = false → listed.getD j true = false := by
      intro j oj hj hij hap
      rcases hi.pair i j o oj hij hoi hj with ⟨e, he, hb, heq⟩ | h
      · rcases Bool.eq_false_or_eq_true (listed.getD j true) with hc | hc
        · have := hcl j oj hj hc e he hb
          rw [heq, Array.getD_eq_getD_getElem?] at this
          rw [Array.getD_eq_getD_getElem?] at hl
          rw [Array.getElem?_eq_getElem (by omega)] at this hl
          simp at this hl; rw [this] at hl; cases hl
        · exact hc
      · rw [hap] at h; cases h
    -- what i looks at
    have looks : ∀ t, t ∈ o.looksAt all.toArray → cur all fr vals (fun k => listed.getD k true) all.length t = (frs i).get t := by
      intro t ht
      rw [cur_walk hw i (by omega), cur_past (i := i) all.length (by omega) (fun j h1 h2 hd' => ?_)]
      · refine cur_same i fun j hj hd' => ?_
        have hjl : j < all.length := by omega
        refine before j _ (List.getElem?_eq_getElem hjl) hj ?_
        have hd2 : all[j].dst = some t := by simpa [List.getElem?_eq_getElem hjl] using hd'
        simp [Oper.apart, hd2, ht]
      · by_cases hji : j = i
        · subst hji; exact hl
        · have hjl : j < all.length := h2
          refine behind j _ (List.getElem?_eq_getElem hjl) (by omega) ?_
          have hd2 : all[j].dst = some t := by simpa [List.getElem?_eq_getElem hjl] using hd'
          simp [Oper.apart, hd2, ht]
    -- behind i
    have hset : ∀ k, k < all.length → (listed.setIfInBounds i true).getD k true = if k = i then true else listed.getD k true := by
      intro k hk
      by_cases hki : k = i
      · subst hki; simp [Array.getD_eq_getD_getElem?, Array.getElem?_setIfInBounds, hsz, hil]
      · rw [getD_set_ne true (Ne.symm hki), if_neg hki]
    have hcur : ∀ t, cur all fr vals (fun k => (listed.setIfInBounds i true).getD k true) all.length t = if o.dst = some t then vals i else cur all fr vals (fun k => listed.getD k true) all.length t := by
      intro t
      by_cases ht : o.dst = some t
      · rw [if_pos ht, cur_past (i := i + 1) all.length hil (fun j h1 h2 hd' => ?_)]
        · simp only [cur, hoi, Option.bind_some]
          rw [if_pos ⟨by rw [hset i hil]; simp, ht⟩]
        · rw [hset j h2, if_neg (by omega)]
          refine behind j _ (List.getElem?_eq_getElem h2) (by omega) ?_
          have hd2 : all[j].dst = some t := by simpa [List.getElem?_eq_getElem h2] using hd'
          simp [Oper.apart, hd2, ht]
      · rw [if_neg ht]
        refine cur_same _ fun j hj hd' => ?_
        rw [hset j hj]
        by_cases hji : j = i
        · subst hji
          rw [hoi] at hd'
          exact absurd (by simpa using hd') ht
        · rw [if_neg hji]
    have hun' : unlisted (listed.setIfInBounds i true) all.length = fuel := by
      have := unlisted_set all.length hil hl (by omega)
      omega
    have hcl' : ∀ j oj, all[j]? = some oj → (listed.setIfInBounds i true).getD j true = true → ∀ e ∈ oj.after, Region.binds .any e = true → (listed.setIfInBounds i true).getD e.on false = true := by
      intro j oj hj hlj e he hb
      have hjl : j < all.length := (List.getElem?_eq_some_iff.1 hj).1
      rw [hset j hjl] at hlj
      by_cases hji : j = i
      · subst hji
        rw [hoi] at hj; injection hj with hj; subst hj
        exact getD_set_true (hdeps e he hb)
      · rw [if_neg hji] at hlj
        exact getD_set_true (hcl j oj hj hlj e he hb)
    have hfs := hw.next i o hoi
    have putrep : ∀ (ρ' : Rho) (w' : World) (u : Value), MExt w0 R0 ρ w m ρ' w' m → Rep (RO w0 R0 ρ' w' m) ρ' m.next w' (vals i) u → ∀ t, Rep (RO w0 R0 ρ' w' m) ρ' m.next w' (cur all fr vals (fun k => (listed.setIfInBounds i true).getD k true) all.length t) ((a.put o.dst u).tmps.getD t Go.undef) := by
      intro ρ' w' u he hu t
      rw [hcur t]
      have h1 : ∀ d, o.dst = some d → d < a.tmps.size := fun d hd' => by rw [← hs, ← hsize i (by omega)]; exact hfs.2.1 d hd'
      cases hdst : o.dst with
      | none => simpa [Act.put] using Rep.mono he _ _ (hrep t)
      | some d =>
        have hlt := h1 d hdst
        by_cases ht : d = t
        · subst ht
          simp [Act.put, Array.getElem?_setIfInBounds, hlt]; exact hu
        · have : ¬ (some d = some t) := fun e => ht (by injection e)
          rw [if_neg this]
          have h2 := Rep.mono he _ _ (hrep t)
          simpa [Act.put, Array.getElem?_setIfInBounds_ne ht] using h2
    have putsize : ∀ u, fr.size = (a.put o.dst u).tmps.size := fun u => by rw [hs]; cases o.dst <;> simp [Act.put]
    -- the operation itself
    unfold wpOp
    rw [ho]
    dsimp only
    have hyield : ∀ g, gval all (frs i).get o = some g → Region.wanted o (yielded all.toArray a.tmps) = g := fun g hg =>
      yielded_of (R := RO w0 R0 ρ w m) (ρ := ρ) (n := m.next) (w := w) (fun j want d hgd hdd => by rw [← looks d (looks_guard hgd (by simpa using hdd))]; exact hrep d) hg
    rcases hw.step i o hoi with ⟨hg, hsem⟩ | ⟨hg, hv, _⟩
    · rw [hyield _ hg, if_pos rfl]
      -- its operands agree with the text's frame
      have heb2 : ∀ x ∈ o.op.operands, Rep (RO w0 R0 ρ w m) ρ m.next w (evalIn (frs i) x) (a.eval x) := by
        intro x hx
        cases x with
        | tmp t =>
          show Rep _ _ _ _ ((frs i).get t) _
          rw [← looks t (looks_operand hx)]
          exact hrep t
        | const v => exact ofVal_rep v _ _ _ _
        | global g => exact rfl
        | func f => exact ⟨[], [], rfl, rfl, rfl⟩
      refine .inl ?_
      unfold Oper.wp
      refine upon_of_post (fun u w' hu => ?_) (hsem w0 R0 ρ w a.eval hm heb2)
      obtain ⟨ρ', g1, g2, g3⟩ := hu
      exact ih _ ρ' w' _ (by simpa using hsz) hun' hcl' g1 (putsize u) (by rw [put_defers]; exact hd) (putrep ρ' w' u g2 g3) (hΨ _ _ _ _ hps g2)
    · rw [hyield _ hg]
      simp only [Bool.false_eq_true, if_false]
      exact ih _ ρ w _ (by simpa using hsz) hun' hcl' hm (putsize _) (by rw [put_defers]; exact hd) (putrep ρ w Go.undef (Ext.refl _ _ _ _) (by rw [hv]; rfl)) hps
end
end Go.Sx
