/-
  Sx13: a region of quiet operations, in whatever order the tape picks: one walk of the text's order serves every order.
-/
import Derived.Test.YtibpodgdondakaaSx12
set_option linter.unusedSimpArgs false
set_option linter.unusedVariables false
namespace Go.Sx
open Go.RowKit
section
variable {P : Program} {E : Env} {α : Type}

/-- A walk of the text's order. -/
inductive ChainW (P : Program) (E : Env) (all : List Oper) : List Oper → Fr → Mem → Fr → Mem → Prop where
  | nil (fr : Fr) (m : Mem) : ChainW P E all [] fr m fr m
  | cons {o : Oper} {rest : List Oper} {fr fr1 fr' : Fr} {m m1 m' : Mem} {v : SV} (h : StepOK P all o fr m v m1) (hx : MoreOK P E true all o fr m v m1) (hf : FSet fr o.dst v fr1) (k : ChainW P E all rest fr1 m1 fr' m') : ChainW P E all (o :: rest) fr m fr' m'

theorem execOps_chainW (hE : EOK P E) {call : CallK α} (hcall : CallOK P true call) {let_ : Op → Bool} {all : List Oper} {k : OpsK α} {L : α → Prop} : ∀ (ops : List Oper) (p : Plan) (fr : Fr) (m : Mem), (execOps E let_ call all ops k p fr m).holds L →
    ∃ p' fr' m', (k p' fr' m').holds L ∧ ChainW P E all ops fr m fr' m'
  | [], p, fr, m, h => ⟨p, fr, m, h, .nil fr m⟩
  | o :: rest, p, fr, m, h => by
    change (oneOp E let_ call all o (execOps E let_ call all rest k) p fr m).holds L at h
    obtain ⟨p1, v, fr1, m1, h1, h2, h3, h4⟩ := oneOp_holds hE hcall h
    obtain ⟨p', fr', m', h5, h6⟩ := execOps_chainW hE hcall rest p1 fr1 m1 h1
    exact ⟨p', fr', m', h5, .cons h2 h4 h3 h6⟩

/-- The same by index: the frame and the memory ahead of each operation, and what each leaves. -/
structure WalkM (P : Program) (E : Env) (all : List Oper) (m m' : Mem) (fr fr' : Fr) (frs : Nat → Fr) (vals : Nat → SV) (ms : Nat → Mem) : Prop where
  first : frs 0 = fr
  last : frs all.length = fr'
  mfirst : ms 0 = m
  mlast : ms all.length = m'
  step : ∀ i o, all[i]? = some o → StepOK P all o (frs i) (ms i) (vals i) (ms (i + 1))
  more : ∀ i o, all[i]? = some o → MoreOK P E true all o (frs i) (ms i) (vals i) (ms (i + 1))
  next : ∀ i o, all[i]? = some o → FSet (frs i) o.dst (vals i) (frs (i + 1))

theorem ChainW.index {all : List Oper} : ∀ {ops : List Oper} {fr fr' : Fr} {m m' : Mem}, ChainW P E all ops fr m fr' m' → ∃ (frs : Nat → Fr) (vals : Nat → SV) (ms : Nat → Mem), frs 0 = fr ∧ frs ops.length = fr' ∧ ms 0 = m ∧ ms ops.length = m' ∧
    (∀ i o, ops[i]? = some o → StepOK P all o (frs i) (ms i) (vals i) (ms (i + 1))) ∧ (∀ i o, ops[i]? = some o → MoreOK P E true all o (frs i) (ms i) (vals i) (ms (i + 1))) ∧ (∀ i o, ops[i]? = some o → FSet (frs i) o.dst (vals i) (frs (i + 1))) := by
  intro ops fr fr' m m' h
  induction h with
  | nil fr m => exact ⟨fun _ => fr, fun _ => .undef, fun _ => m, rfl, rfl, rfl, rfl, fun i o h => by simp at h, fun i o h => by simp at h, fun i o h => by simp at h⟩
  | @cons o rest fr fr1 fr' m m1 m' v hst hx hf k ih =>
    obtain ⟨frs, vals, ms, h1, h2, h1m, h2m, h3, hx3, h4⟩ := ih
    refine ⟨fun i => Nat.casesOn i fr frs, fun i => Nat.casesOn i v vals, fun i => Nat.casesOn i m ms, rfl, h2, rfl, h2m, fun i o' hi => ?_, fun i o' hi => ?_, fun i o' hi => ?_⟩
    · cases i with
      | zero => simp at hi; subst hi; dsimp only; rw [h1m]; exact hst
      | succ i => exact h3 i o' (by simpa using hi)
    · cases i with
      | zero => simp at hi; subst hi; dsimp only; rw [h1m]; exact hx
      | succ i => exact hx3 i o' (by simpa using hi)
    · cases i with
      | zero => simp at hi; subst hi; dsimp only; rw [h1]; exact hf
      | succ i => exact h4 i o' (by simpa using hi)

theorem ChainW.toWalk {all : List Oper} {m m' : Mem} {fr fr' : Fr} (h : ChainW P E all all fr m fr' m') : ∃ frs vals ms, WalkM P E all m m' fr fr' frs vals ms :=
  let ⟨frs, vals, ms, h1, h2, h3, h4, h5, h6, h7⟩ := h.index
  ⟨frs, vals, ms, h1, h2, h3, h4, h5, h6, h7⟩

/-- A walk, of the slots alone. -/
structure Walk (all : List Oper) (fr fr' : Fr) (frs : Nat → Fr) (vals : Nat → SV) : Prop where
  first : frs 0 = fr
  last : frs all.length = fr'
  next : ∀ i o, all[i]? = some o → FSet (frs i) o.dst (vals i) (frs (i + 1))

/-! ### Which value a slot holds when the operations of a set have been carried out -/

noncomputable def cur (all : List Oper) (fr : Fr) (vals : Nat → SV) (S : Nat → Bool) : Nat → Nat → SV
  | 0, t => fr.get t
  | n + 1, t => if S n = true ∧ (all[n]?).bind (·.dst) = some t then vals n else cur all fr vals S n t

theorem cur_walk {all : List Oper} {fr fr' : Fr} {frs : Nat → Fr} {vals : Nat → SV} (hw : Walk all fr fr' frs vals) : ∀ (i : Nat), i ≤ all.length → ∀ t, (frs i).get t = cur all fr vals (fun _ => true) i t
  | 0, _, t => by rw [hw.first]; rfl
  | i + 1, hi, t => by
    have hlt : i < all.length := hi
    have ho : all[i]? = some all[i] := List.getElem?_eq_getElem hlt
    rw [(hw.next i _ ho).2.2 t, cur_walk hw i (by omega) t]
    simp only [cur, ho, Option.bind_some, true_and]

theorem cur_same {all : List Oper} {fr : Fr} {vals : Nat → SV} {S S' : Nat → Bool} {t : Nat} : ∀ (i : Nat), (∀ j, j < i → (all[j]?).bind (·.dst) = some t → S j = S' j) → cur all fr vals S i t = cur all fr vals S' i t
  | 0, _ => rfl
  | i + 1, h => by
    have ih := cur_same (fr := fr) (vals := vals) i (fun j hj => h j (by omega))
    simp only [cur, ih]
    by_cases hd : (all[i]?).bind (·.dst) = some t
    · rw [h i (by omega) hd]
    · simp [hd]

theorem cur_past {all : List Oper} {fr : Fr} {vals : Nat → SV} {S : Nat → Bool} {t i : Nat} : ∀ (n : Nat), i ≤ n → (∀ j, i ≤ j → j < n → (all[j]?).bind (·.dst) = some t → S j = false) → cur all fr vals S n t = cur all fr vals S i t
  | 0, hi, _ => by rw [show i = 0 by omega]
  | n + 1, hi, h => by
    by_cases he : i = n + 1
    · rw [he]
    · have ih := cur_past (fr := fr) (vals := vals) n (by omega) (fun j h1 h2 => h j h1 (by omega))
      simp only [cur]
      by_cases hd : (all[n]?).bind (·.dst) = some t
      · rw [h n (by omega) (by omega) hd]; simpa using ih
      · simp [hd]; exact ih

/-! ### The look at the region -/

/-- Of two operations the later waits for the earlier, or they are apart; and each waits for earlier ones alone. -/
structure Indep (all : List Oper) : Prop where
  pair : ∀ i j oi oj, i < j → all[i]? = some oi → all[j]? = some oj → (∃ e ∈ oj.after, Region.binds .any e = true ∧ e.on = i) ∨ oi.apart all.toArray oj = true
  back : ∀ j oj, all[j]? = some oj → ∀ e ∈ oj.after, Region.binds .any e = true → e.on < j

theorem indep_of_lexB {all : List Oper} (h : Region.lexB .any all.toArray = true) : Indep all := by
  simp only [Region.lexB, Bool.and_eq_true] at h
  have key : ∀ (f k : Nat) (listed : Array Bool), k + f = all.length → (∀ i, i < all.length → listed.getD i true = decide (i < k)) → listed.size = all.length → Region.lexFrom .any all.toArray f k listed = true →
      ∀ i, k ≤ i → i < all.length → (∀ oi, all[i]? = some oi → ∀ e ∈ oi.after, Region.binds .any e = true → e.on < i) ∧ ∀ j oi oj, i < j → all[i]? = some oi → all[j]? = some oj → (∃ e ∈ oj.after, Region.binds .any e = true ∧ e.on = i) ∨ oi.apart all.toArray oj = true := by
    intro f
    induction f with
    | zero => intro k listed hk hl hsz h i h1 h2; omega
    | succ f ih =>
      intro k listed hk hl hsz h i h1 h2
      simp only [Region.lexFrom, Bool.and_eq_true] at h
      obtain ⟨⟨hr, hf⟩, hB⟩ := h
      by_cases hik : i = k
      · subst hik
        have hr' : i ∈ Region.ready .any all.toArray listed := by simpa using hr
        obtain ⟨_, o, ho, hall⟩ := mem_ready.1 hr'
        have hoi : all[i]? = some o := by simpa using ho
        constructor
        · intro oi hi e he hb
          rw [hoi] at hi; injection hi with hi; subst hi
          have := hall e he hb
          have hlt : e.on < all.length := by
            rcases Nat.lt_or_ge e.on all.length with h | h
            · exact h
            · rw [Array.getD_eq_getD_getElem?, Array.getElem?_eq_none (by omega)] at this; simp at this
          have h3 := hl e.on hlt
          have h4 : listed.getD e.on true = true := by
            rw [Array.getD_eq_getD_getElem?] at this ⊢
            rw [Array.getElem?_eq_getElem (by omega)] at this ⊢
            simpa using this
          rw [h4] at h3
          simpa using h3.symm
        · intro j oi oj hij hi hj
          rw [hoi] at hi; injection hi with hi; subst hi
          have hjl : j < all.length := (List.getElem?_eq_some_iff.1 hj).1
          by_cases hw : ∃ e ∈ oj.after, Region.binds .any e = true ∧ e.on = i
          · exact .inl hw
          · refine .inr (Region.free_spec ho hf j oj (by simpa using hj) (by omega) ?_ (fun e he hb heq => hw ⟨e, he, hb, heq⟩))
            rw [hl j hjl]; simp; omega
      · refine ih (k + 1) _ (by omega) (fun j hj => ?_) (by simpa using hsz) hB i (by omega) h2
        have h3 := hl j hj
        by_cases hjk : k = j
        · subst hjk
          rw [Array.getD_eq_getD_getElem?, Array.getElem?_setIfInBounds]
          simp [hsz, hj]
        · rw [getD_set_ne true hjk, h3]
          congr 1
          rw [eq_iff_iff]; omega
  have hk := key all.length 0 (Array.replicate all.length false) (by omega) (fun i hi => by simp [hi]) (by simp) (by simpa using h.2)
  refine ⟨fun i j oi oj hij hi hj => ?_, fun j oj hj => ?_⟩
  · exact (hk i (Nat.zero_le _) (List.getElem?_eq_some_iff.1 hi).1).2 j oi oj hij hi hj
  · exact (hk j (Nat.zero_le _) (List.getElem?_eq_some_iff.1 hj).1).1 oj hj

/-! ### Whatever order is picked -/

def unlisted (listed : Array Bool) : Nat → Nat
  | 0 => 0
  | n + 1 => unlisted listed n + if listed.getD n true = true then 0 else 1

theorem unlisted_set {listed : Array Bool} {i : Nat} : ∀ (n : Nat), i < n → listed.getD i true = false → i < listed.size → unlisted (listed.setIfInBounds i true) n + 1 = unlisted listed n
  | 0, h, _, _ => by omega
  | n + 1, h, hf, hs => by
    by_cases hin : i = n
    · subst hin
      have h1 : (listed.setIfInBounds i true).getD i true = true := by simp [Array.getD_eq_getD_getElem?, Array.getElem?_setIfInBounds, hs]
      have h2 : ∀ k, k ≤ i → unlisted (listed.setIfInBounds i true) k = unlisted listed k := by
        intro k
        induction k with
        | zero => intro _; rfl
        | succ k ih =>
          intro hk
          simp only [unlisted, ih (by omega)]
          rw [getD_set_ne true (by omega)]
      simp only [unlisted, h1, hf, h2 i (Nat.le_refl _)]
      simp
    · have ih := unlisted_set n (by omega) hf hs
      simp only [unlisted]
      rw [getD_set_ne true hin]
      omega

theorem unlisted_zero {listed : Array Bool} : ∀ (n : Nat), unlisted listed n = 0 → ∀ i, i < n → listed.getD i true = true
  | 0, _, i, hi => by omega
  | n + 1, h, i, hi => by
    simp only [unlisted] at h
    by_cases hin : i = n
    · subst hin
      by_cases hc : listed.getD i true = true
      · exact hc
      · rw [if_neg hc] at h; omega
    · exact unlisted_zero n (by omega) i (by omega)

theorem looks_operand {ops : Array Oper} {o : Oper} {t : Tmp} (h : .tmp t ∈ o.op.operands) : t ∈ o.looksAt ops :=
  List.mem_append_left _ (List.mem_filterMap.2 ⟨.tmp t, by simpa using h, rfl⟩)
theorem looks_guard {ops : Array Oper} {o : Oper} {g : Nat} {want : Bool} {t : Tmp} (h : o.guard = some (g, want)) (hd : (ops[g]?).bind (·.dst) = some t) : t ∈ o.looksAt ops :=
  List.mem_append_right _ (by rw [h]; dsimp only; rw [hd]; simp)

theorem any_order {w0 : World} {R0 : Nat → Prop} {all : List Oper} {fr fr' : Fr} {frs : Nat → Fr} {vals : Nat → SV} (hw : Walk all fr fr' frs vals) (hi : Indep all) {M : (Nat → Bool) → Mem} (hMc : ∀ S S', (∀ k, k < all.length → S k = S' k) → M S = M S')
    (hstep : ∀ (S : Nat → Bool) i o, all[i]? = some o → S i = false → (∀ j oj, all[j]? = some oj → S j = true → ∀ e ∈ oj.after, Region.binds .any e = true → S e.on = true) → (∀ e ∈ o.after, Region.binds .any e = true → S e.on = true) → StepOK P all o (frs i) (M S) (vals i) (M fun k => if k = i then true else S k))
    (hns : Region.noSelect all.toArray = true) {Q : Exit → Act → World → Prop} {Ψ : Rho → World → Mem → Prop}
    (hΨ : ∀ ρ w m ρ' w' m', Ψ ρ w m → MExt w0 R0 ρ w m ρ' w' m' → Ψ ρ' w' m') (hQ : ∀ ρ w a, SRel w0 R0 ρ w fr' (M fun _ => true) a → Ψ ρ w (M fun _ => true) → Q .normal a w) : ∀ (fuel : Nat) (listed : Array Bool) (ρ : Rho) (w : World) (a : Act), listed.size = all.length → unlisted listed all.length = fuel →
    (∀ j oj, all[j]? = some oj → listed.getD j true = true → ∀ e ∈ oj.after, Region.binds .any e = true → listed.getD e.on false = true) →
    MRel w0 R0 ρ w (M fun k => listed.getD k true) → fr.size = a.tmps.size → a.defers = [] → (∀ t, Rep (RO w0 R0 ρ w (M fun k => listed.getD k true)) ρ (M fun k => listed.getD k true).next w (cur all fr vals (fun i => listed.getD i true) all.length t) (a.tmps.getD t Go.undef)) → Ψ ρ w (M fun k => listed.getD k true) →
    wpAny P .any all.toArray Q fuel listed a w := by
  have hsize : ∀ i, i ≤ all.length → (frs i).size = fr.size := by
    intro i
    induction i with
    | zero => intro _; rw [hw.first]
    | succ i ih => intro h; rw [(hw.next i _ (List.getElem?_eq_getElem (by omega))).1]; exact ih (by omega)
  have done : ∀ (listed : Array Bool) (ρ : Rho) (w : World) (a : Act), listed.size = all.length → MRel w0 R0 ρ w (M fun k => listed.getD k true) → fr.size = a.tmps.size → a.defers = [] → (∀ t, Rep (RO w0 R0 ρ w (M fun k => listed.getD k true)) ρ (M fun k => listed.getD k true).next w (cur all fr vals (fun i => listed.getD i true) all.length t) (a.tmps.getD t Go.undef)) → Ψ ρ w (M fun k => listed.getD k true) → (∀ i, i < all.length → listed.getD i true = true) → Q .normal a w := by
    intro listed ρ w a hsz hm hs hd hrep hps hall
    have eM : M (fun k => listed.getD k true) = M fun _ => true := hMc _ _ fun k hk => hall k hk
    rw [eM] at hm hrep hps
    refine hQ ρ w a ⟨hm, ⟨by rw [← hw.last, hsize _ (Nat.le_refl _)]; exact hs, fun t => ?_⟩, hd⟩ hps
    have e : fr'.get t = cur all fr vals (fun i => listed.getD i true) all.length t := by
      rw [← hw.last, cur_walk hw _ (Nat.le_refl _)]
      exact cur_same _ fun j hj _ => (hall j hj).symm
    rw [e]; exact hrep t
  -- where none is ready all are listed
  have none_ready : ∀ (listed : Array Bool), listed.size = all.length → Region.ready .any all.toArray listed = [] → ∀ i, i < all.length → listed.getD i true = true := by
    intro listed hsz hr i
    induction i using Nat.strongRecOn with
    | _ i ih =>
      intro hil
      rcases Bool.eq_false_or_eq_true (listed.getD i true) with h | h
      · exact h
      · have : i ∈ Region.ready .any all.toArray listed := by
          rw [mem_ready]
          refine ⟨h, all[i], by simp [hil], fun e he hb => ?_⟩
          have hlt := hi.back i _ (List.getElem?_eq_getElem hil) e he hb
          have h1 := ih e.on hlt (by omega)
          rw [Array.getD_eq_getD_getElem?, Array.getElem?_eq_getElem (by omega)] at h1 ⊢
          simpa using h1
        rw [hr] at this
        cases this
  intro fuel
  induction fuel with
  | zero =>
    intro listed ρ w a hsz hun hcl hm hs hd hrep hps
    have hall := unlisted_zero _ hun
    refine ⟨?_, done listed ρ w a hsz hm hs hd hrep hps hall⟩
    apply List.eq_nil_iff_forall_not_mem.2
    intro i hir
    obtain ⟨h1, o, ho, _⟩ := mem_ready.1 hir
    have hil : i < all.length := by
      have : all[i]? = some o := by simpa using ho
      exact (List.getElem?_eq_some_iff.1 this).1
    rw [hall i hil] at h1; cases h1
  | succ fuel ih =>
    intro listed ρ w a hsz hun hcl hm hs hd hrep hps
    refine ⟨fun hr => done listed ρ w a hsz hm hs hd hrep hps (none_ready listed hsz hr), fun i hir => ?_⟩
    obtain ⟨hl, o, ho, hdeps⟩ := mem_ready.1 hir
    have hoi : all[i]? = some o := by simpa using ho
    have hil : i < all.length := (List.getElem?_eq_some_iff.1 hoi).1
    -- whoever writes a slot that i looks at, ahead of i, is listed; whoever writes it behind i is not
    have before : ∀ j oj, all[j]? = some oj → j < i → oj.apart all.toArray o = false → listed.getD j true = true := by
      intro j oj hj hji hap
      rcases hi.pair j i oj o hji hj hoi with ⟨e, he, hb, heq⟩ | h
      · have := hdeps e he hb
        rw [heq, Array.getD_eq_getD_getElem?] at this
        have hjl : j < listed.size := by rw [hsz]; exact (List.getElem?_eq_some_iff.1 hj).1
        rw [Array.getElem?_eq_getElem hjl] at this
        rw [Array.getD_eq_getD_getElem?, Array.getElem?_eq_getElem hjl]
        simpa using this
      · rw [hap] at h; cases h
    have behind : ∀ j oj, all[j]? = some oj → i < j → o.apart all.toArray oj = false → listed.getD j true = false := by
      intro j oj hj hij hap
      rcases hi.pair i j o oj hij hoi hj with ⟨e, he, hb, heq⟩ | h
      · rcases Bool.eq_false_or_eq_true (listed.getD j true) with hc | hc
        · have := hcl j oj hj hc e he hb
          rw [heq, Array.getD_eq_getD_getElem?] at this
          rw [Array.getD_eq_getD_getElem?] at hl
          rw [Array.getElem?_eq_getElem (by omega)] at this hl
          simp at this hl; rw [this] at hl; cases hl
        · exact hc
      · rw [hap] at h; cases h
    -- what i looks at
    have looks : ∀ t, t ∈ o.looksAt all.toArray → cur all fr vals (fun k => listed.getD k true) all.length t = (frs i).get t := by
      intro t ht
      rw [cur_walk hw i (by omega), cur_past (i := i) all.length (by omega) (fun j h1 h2 hd' => ?_)]
      · refine cur_same i fun j hj hd' => ?_
        have hjl : j < all.length := by omega
        refine before j _ (List.getElem?_eq_getElem hjl) hj ?_
        have hd2 : all[j].dst = some t := by simpa [List.getElem?_eq_getElem hjl] using hd'
        simp [Oper.apart, hd2, ht]
      · by_cases hji : j = i
        · subst hji; exact hl
        · have hjl : j < all.length := h2
          refine behind j _ (List.getElem?_eq_getElem hjl) (by omega) ?_
          have hd2 : all[j].dst = some t := by simpa [List.getElem?_eq_getElem hjl] using hd'
          simp [Oper.apart, hd2, ht]
    -- behind i
    have hset : ∀ k, k < all.length → (listed.setIfInBounds i true).getD k true = if k = i then true else listed.getD k true := by
      intro k hk
      by_cases hki : k = i
      · subst hki; simp [Array.getD_eq_getD_getElem?, Array.getElem?_setIfInBounds, hsz, hil]
      · rw [getD_set_ne true (Ne.symm hki), if_neg hki]
    have hcur : ∀ t, cur all fr vals (fun k => (listed.setIfInBounds i true).getD k true) all.length t = if o.dst = some t then vals i else cur all fr vals (fun k => listed.getD k true) all.length t := by
      intro t
      by_cases ht : o.dst = some t
      · rw [if_pos ht, cur_past (i := i + 1) all.length hil (fun j h1 h2 hd' => ?_)]
        · simp only [cur, hoi, Option.bind_some]
          rw [if_pos ⟨by rw [hset i hil]; simp, ht⟩]
        · rw [hset j h2, if_neg (by omega)]
          refine behind j _ (List.getElem?_eq_getElem h2) (by omega) ?_
          have hd2 : all[j].dst = some t := by simpa [List.getElem?_eq_getElem h2] using hd'
          simp [Oper.apart, hd2, ht]
      · rw [if_neg ht]
        refine cur_same _ fun j hj hd' => ?_
        rw [hset j hj]
        by_cases hji : j = i
        · subst hji
          rw [hoi] at hd'
          exact absurd (by simpa using hd') ht
        · rw [if_neg hji]
    have hun' : unlisted (listed.setIfInBounds i true) all.length = fuel := by
      have := unlisted_set all.length hil hl (by omega)
      omega
    have hcl' : ∀ j oj, all[j]? = some oj → (listed.setIfInBounds i true).getD j true = true → ∀ e ∈ oj.after, Region.binds .any e = true → (listed.setIfInBounds i true).getD e.on false = true := by
      intro j oj hj hlj e he hb
      have hjl : j < all.length := (List.getElem?_eq_some_iff.1 hj).1
      rw [hset j hjl] at hlj
      by_cases hji : j = i
      · subst hji
        rw [hoi] at hj; injection hj with hj; subst hj
        exact getD_set_true (hdeps e he hb)
      · rw [if_neg hji] at hlj
        exact getD_set_true (hcl j oj hj hlj e he hb)
    have hfs := hw.next i o hoi
    -- the memory ahead of i and behind i
    have eM : M (fun k => (listed.setIfInBounds i true).getD k true) = M fun k => if k = i then true else listed.getD k true := hMc _ _ fun k hk => hset k hk
    have up : ∀ k, listed.getD k false = true → listed.getD k true = true := fun k hk => by
      rw [Array.getD_eq_getD_getElem?] at hk ⊢
      cases hx : listed[k]? with
      | none => rfl
      | some b => rw [hx] at hk; simpa using hk
    have hst := hstep (fun k => listed.getD k true) i o hoi hl (fun j oj hj hlj e he hb => up _ (hcl j oj hj hlj e he hb)) (fun e he hb => up _ (hdeps e he hb))
    rw [← eM] at hst
    generalize hm1 : M (fun k => listed.getD k true) = m at hst hm hrep hps
    generalize hm2 : M (fun k => (listed.setIfInBounds i true).getD k true) = m' at hst
    have putrep : ∀ (ρ' : Rho) (w' : World) (u : Value), MExt w0 R0 ρ w m ρ' w' m' → Rep (RO w0 R0 ρ' w' m') ρ' m'.next w' (vals i) u → ∀ t, Rep (RO w0 R0 ρ' w' m') ρ' m'.next w' (cur all fr vals (fun k => (listed.setIfInBounds i true).getD k true) all.length t) ((a.put o.dst u).tmps.getD t Go.undef) := by
      intro ρ' w' u he hu t
      rw [hcur t]
      have h1 : ∀ d, o.dst = some d → d < a.tmps.size := fun d hd' => by rw [← hs, ← hsize i (by omega)]; exact hfs.2.1 d hd'
      cases hdst : o.dst with
      | none => simpa [Act.put] using Rep.mono he _ _ (hrep t)
      | some d =>
        have hlt := h1 d hdst
        by_cases ht : d = t
        · subst ht
          simp [Act.put, Array.getElem?_setIfInBounds, hlt]; exact hu
        · have : ¬ (some d = some t) := fun e => ht (by injection e)
          rw [if_neg this]
          have h2 := Rep.mono he _ _ (hrep t)
          simpa [Act.put, Array.getElem?_setIfInBounds_ne ht] using h2
    have putsize : ∀ u, fr.size = (a.put o.dst u).tmps.size := fun u => by rw [hs]; cases o.dst <;> simp [Act.put]
    -- the operation itself
    unfold wpOp
    rw [ho]
    dsimp only
    have hyield : ∀ g, gval all (frs i).get o = some g → Region.wanted o (yielded all.toArray a.tmps) = g := fun g hg =>
      yielded_of (R := RO w0 R0 ρ w m) (ρ := ρ) (n := m.next) (w := w) (fun j want d hgd hdd => by rw [← looks d (looks_guard hgd (by simpa using hdd))]; exact hrep d) hg
    rcases hst with ⟨hg, hsem⟩ | ⟨hg, hv, hmm⟩
    · rw [hyield _ hg, if_pos rfl]
      -- its operands agree with the text's frame
      have heb2 : ∀ x ∈ o.op.operands, Rep (RO w0 R0 ρ w m) ρ m.next w (evalIn (frs i) x) (a.eval x) := by
        intro x hx
        cases x with
        | tmp t =>
          show Rep _ _ _ _ ((frs i).get t) _
          rw [← looks t (looks_operand hx)]
          exact hrep t
        | const v => exact ofVal_rep v _ _ _ _
        | global g => exact rfl
        | func f => exact ⟨[], [], rfl, rfl, rfl⟩
      refine .inl ?_
      unfold Oper.wp
      refine upon_of_post (fun u w' hu => ?_) (hsem w0 R0 ρ w a.eval hm heb2)
      obtain ⟨ρ', g1, g2, g3⟩ := hu
      exact ih _ ρ' w' _ (by simpa using hsz) hun' hcl' (by rw [hm2]; exact g1) (putsize u) (by rw [put_defers]; exact hd) (by rw [hm2]; exact putrep ρ' w' u g2 g3) (by rw [hm2]; exact hΨ _ _ _ _ _ _ hps g2)
    · rw [hyield _ hg]
      subst hmm
      simp only [Bool.false_eq_true, if_false]
      exact ih _ ρ w _ (by simpa using hsz) hun' hcl' (by rw [hm2]; exact hm) (putsize _) (by rw [put_defers]; exact hd) (by rw [hm2]; exact putrep ρ w Go.undef (Ext.refl _ _ _ _) (by rw [hv]; rfl)) (by rw [hm2]; exact hps)

/-! ### The memory when a set has been carried out -/

theorem pure_quiet {o : Op} (h : pureOp o = true) : quiet E o = true := by cases o <;> first | rfl | (cases h; done)
theorem shape_quiet {o : Op} (h : shapeOp o = true) : quiet E o = true := by
  cases o <;> first
    | rfl
    | (cases h; done)
    | (rename_i c; obtain ⟨ca, aa, ta⟩ := c; cases ca <;> first | (cases h; done) | (rename_i b; cases b <;> first | rfl | (cases h; done)))
theorem pure_writer {o : Op} (h : pureOp o = true) : writer o = false := by cases o <;> first | rfl | (cases h; done)
theorem shape_writer {o : Op} (h : shapeOp o = true) : writer o = false := by cases o <;> first | rfl | (cases h; done)
theorem store_writer {o : Op} (h : isStore o = true) : writer o = true := by simp [writer, h]

structure Wet (E : Env) (all : List Oper) (al : Bool) (a : Nat) : Prop where
  pre : ∀ (i : Nat) (o : Oper), i < a → all[i]? = some o → writer o.op = false ∧ wetPre E al o.op = true
  head : ∀ (o : Oper), all[a]? = some o → writer o.op = true ∧ isAlloc o.op = al
  post : ∀ (i : Nat) (o : Oper), a < i → all[i]? = some o → wetPost al o.op = true
  pairs : ∀ (j : Nat) (oj : Oper), all[j]? = some oj → isStore oj.op = true → ∀ (i : Nat) (oi : Oper), i < j → all[i]? = some oi → pureOp oi.op = true ∨ shapeOp oi.op = true ∨ boundTo all 3 oj i = true

theorem wetGo_spec {al : Bool} : ∀ (l : List Oper), wetGo E al l = true → ∃ a, (∀ (i : Nat) (o : Oper), i < a → l[i]? = some o → writer o.op = false ∧ wetPre E al o.op = true) ∧ (∀ (o : Oper), l[a]? = some o → writer o.op = true ∧ isAlloc o.op = al) ∧ ∀ (i : Nat) (o : Oper), a < i → l[i]? = some o → wetPost al o.op = true
  | [], _ => ⟨0, fun i o h => absurd h (Nat.not_lt_zero _), fun o h => (by cases h), fun i o _ h => (by cases h)⟩
  | o :: os, h => by
    change (match writer o.op with | true => (isAlloc o.op == al) && os.all fun o => wetPost al o.op | false => wetPre E al o.op && wetGo E al os) = true at h
    split at h
    · rename_i hw
      simp only [Bool.and_eq_true, beq_iff_eq, List.all_eq_true] at h
      refine ⟨0, fun i o h => absurd h (Nat.not_lt_zero _), fun o' h' => ?_, fun i o' hi h' => ?_⟩
      · simp at h'; subst h'; exact ⟨hw, h.1⟩
      · cases i with
        | zero => cases hi
        | succ i => exact h.2 o' (List.mem_of_getElem? (by simpa using h'))
    · rename_i hw
      simp only [Bool.and_eq_true] at h
      obtain ⟨a, h1, h2, h3⟩ := wetGo_spec os h.2
      refine ⟨a + 1, fun i o' hi h' => ?_, fun o' h' => h2 o' (by simpa using h'), fun i o' hi h' => ?_⟩
      · cases i with
        | zero => simp at h'; subst h'; exact ⟨hw, h.1⟩
        | succ i => exact h1 i o' (by omega) (by simpa using h')
      · cases i with
        | zero => omega
        | succ i => exact h3 i o' (by omega) (by simpa using h')

theorem wetB_spec {all : List Oper} (h : wetB E all = true) : ∃ al a, Wet E all al a := by
  simp only [wetB, Bool.and_eq_true, Bool.or_eq_true] at h
  have hp : ∀ (j : Nat) (oj : Oper), all[j]? = some oj → isStore oj.op = true → ∀ (i : Nat) (oi : Oper), i < j → all[i]? = some oi → pureOp oi.op = true ∨ shapeOp oi.op = true ∨ boundTo all 3 oj i = true := by
    intro j oj hj hs i oi hij hi
    have h2 := h.2
    simp only [wetPairs, List.all_eq_true] at h2
    have h3 := h2 (oj, j) (List.mem_zipIdx_iff_getElem?.2 hj)
    simp only [hs, Bool.not_true, Bool.false_or, List.all_eq_true] at h3
    have h4 := h3 (oi, i) (List.mem_zipIdx_iff_getElem?.2 hi)
    have hb : Nat.blt i j = true := by rw [Nat.blt_eq]; exact hij
    simp only [hb, Bool.not_true, Bool.false_or, Bool.or_eq_true] at h4
    rcases h4 with h4 | h4 | h4
    · exact .inl h4
    · exact .inr (.inl h4)
    · exact .inr (.inr h4)
  rcases h.1 with h1 | h1 <;> obtain ⟨a, g1, g2, g3⟩ := wetGo_spec all h1
  · exact ⟨false, a, g1, g2, g3, hp⟩
  · exact ⟨true, a, g1, g2, g3, hp⟩

noncomputable def curM (all : List Oper) (ms : Nat → Mem) (S : Nat → Bool) : Nat → Mem
  | 0 => ms 0
  | n + 1 => if S n = true ∧ (all[n]?).any (fun o => writer o.op) = true then ms (n + 1) else curM all ms S n

theorem curM_congr {all : List Oper} {ms : Nat → Mem} {S S' : Nat → Bool} : ∀ (n : Nat), (∀ k, k < n → (all[k]?).any (fun o => writer o.op) = true → S k = S' k) → curM all ms S n = curM all ms S' n
  | 0, _ => rfl
  | n + 1, h => by
    have ih := curM_congr (ms := ms) n (fun k hk => h k (by omega))
    simp only [curM, ih]
    by_cases hw : (all[n]?).any (fun o => writer o.op) = true
    · rw [h n (by omega) hw]
    · simp [hw]

theorem curM_past {all : List Oper} {ms : Nat → Mem} {S : Nat → Bool} {i : Nat} : ∀ (n : Nat), i ≤ n → (∀ k, i ≤ k → k < n → (all[k]?).any (fun o => writer o.op) = true → S k = false) → curM all ms S n = curM all ms S i
  | 0, h, _ => by rw [show i = 0 by omega]
  | n + 1, h, hk => by
    by_cases he : i = n + 1
    · rw [he]
    · have ih := curM_past (ms := ms) n (by omega) (fun k h1 h2 => hk k h1 (by omega))
      simp only [curM]
      by_cases hw : (all[n]?).any (fun o => writer o.op) = true
      · rw [hk n (by omega) (by omega) hw]; simpa using ih
      · simp [hw]; exact ih

theorem curM_some {all : List Oper} {ms : Nat → Mem} {S : Nat → Bool} : ∀ (n : Nat), n ≤ all.length → ∃ k, k ≤ n ∧ curM all ms S n = ms k ∧ (k = 0 ∨ ∃ j o, k = j + 1 ∧ S j = true ∧ all[j]? = some o ∧ writer o.op = true)
  | 0, _ => ⟨0, Nat.le_refl _, rfl, .inl rfl⟩
  | n + 1, h => by
    simp only [curM]
    split
    · rename_i hc
      refine ⟨n + 1, Nat.le_refl _, rfl, .inr ⟨n, all[n], rfl, hc.1, List.getElem?_eq_getElem h, ?_⟩⟩
      have := hc.2
      rw [List.getElem?_eq_getElem h] at this
      simpa using this
    · obtain ⟨k, h1, h2, h3⟩ := curM_some (all := all) (ms := ms) (S := S) n (by omega)
      exact ⟨k, by omega, h2, h3⟩

/-- All of the text's operations carried out: the text's memory. -/
theorem curM_all {all : List Oper} {ms : Nat → Mem} (hk : ∀ (i : Nat) (o : Oper), all[i]? = some o → writer o.op = false → ms (i + 1) = ms i) {S : Nat → Bool} : ∀ (n : Nat), n ≤ all.length → (∀ k, k < n → (all[k]?).any (fun o => writer o.op) = true → S k = true) → curM all ms S n = ms n
  | 0, _, _ => rfl
  | n + 1, h, hS => by
    simp only [curM]
    have ho : all[n]? = some all[n] := List.getElem?_eq_getElem h
    by_cases hw : writer all[n].op = true
    · rw [if_pos ⟨hS n (by omega) (by rw [ho]; simpa using hw), by rw [ho]; simpa using hw⟩]
    · rw [if_neg (fun hc => hw (by have := hc.2; rw [ho] at this; simpa using this)), curM_all (all := all) hk n (by omega) (fun k hk => hS k (by omega)), hk n _ ho (by simpa using hw)]

theorem bound_in {all : List Oper} {S : Nat → Bool} (hcl : ∀ (j : Nat) (oj : Oper), all[j]? = some oj → S j = true → ∀ e ∈ oj.after, Region.binds .any e = true → S e.on = true) :
    ∀ (n : Nat) (o : Oper) (i : Nat), (∀ e ∈ o.after, Region.binds .any e = true → S e.on = true) → boundTo all n o i = true → S i = true
  | 0, o, i, ho, h => by
    simp only [boundTo, List.any_eq_true, Bool.and_eq_true] at h
    obtain ⟨e, he, hb, hon⟩ := h
    have := ho e (by simpa using he) hb
    rw [Nat.eq_of_beq_eq_true hon] at this; exact this
  | n + 1, o, i, ho, h => by
    unfold boundTo at h
    rcases Bool.or_eq_true _ _ ▸ h with h | h
    · exact bound_in hcl n o i ho h
    · simp only [List.any_eq_true, Bool.and_eq_true] at h
      obtain ⟨e, he, hb, hx⟩ := h
      split at hx
      · rename_i o' ho'
        rw [nth_eq] at ho'
        have hS := ho e (by simpa using he) hb
        exact bound_in hcl n o' i (fun e' he' hb' => hcl e.on o' ho' hS e' he' hb') hx
      · cases hx

theorem wet_keep {all : List Oper} {m m' : Mem} {fr fr' : Fr} {frs : Nat → Fr} {vals : Nat → SV} {ms : Nat → Mem} (hw : WalkM P E all m m' fr fr' frs vals ms) {al : Bool} {a : Nat} (hwet : Wet E all al a) (k : Nat) (o : Oper) (ho : all[k]? = some o) (hwr : writer o.op = false) : ms (k + 1) = ms k := by
  refine (hw.more k o ho).quiet rfl ?_
  rcases Nat.lt_trichotomy k a with h | h | h
  · have := (hwet.pre k o h ho).2
    simp only [wetPre, Bool.and_eq_true] at this; exact this.1
  · subst h; rw [(hwet.head o ho).1] at hwr; cases hwr
  · have := hwet.post k o h ho
    simp only [wetPost, Bool.or_eq_true, Bool.and_eq_true] at this
    rcases this with h1 | h1 | h1
    · exact pure_quiet h1
    · rw [store_writer h1] at hwr; cases hwr
    · exact shape_quiet h1.1

theorem wet_step {all : List Oper} {m m' : Mem} {fr fr' : Fr} {frs : Nat → Fr} {vals : Nat → SV} {ms : Nat → Mem} (hw : WalkM P E all m m' fr fr' frs vals ms) {al : Bool} {a : Nat} (hwet : Wet E all al a) (hfresh : m.get m.next = none)
    (S : Nat → Bool) (i : Nat) (o : Oper) (hoi : all[i]? = some o) (hSi : S i = false) (hcl : ∀ (j : Nat) (oj : Oper), all[j]? = some oj → S j = true → ∀ e ∈ oj.after, Region.binds .any e = true → S e.on = true) (hready : ∀ e ∈ o.after, Region.binds .any e = true → S e.on = true) :
    StepOK P all o (frs i) (curM all ms S all.length) (vals i) (curM all ms (fun k => if k = i then true else S k) all.length) := by
  have hil : i < all.length := (List.getElem?_eq_some_iff.1 hoi).1
  have hkeep : ∀ (k : Nat) (o : Oper), all[k]? = some o → writer o.op = false → ms (k + 1) = ms k := fun k o ho hwr => wet_keep hw hwet k o ho hwr
  have hisw : ∀ {k : Nat} {o : Oper}, all[k]? = some o → ((all[k]?).any (fun o => writer o.op) = true ↔ writer o.op = true) := fun {k o} ho => by rw [ho]; simp
  -- the memory ahead of the first writer is the first one
  have hms0 : ∀ k, k ≤ a → k ≤ all.length → ms k = m := by
    intro k
    induction k with
    | zero => intro _ _; exact hw.mfirst
    | succ k ih =>
      intro h1 h2
      have ho : all[k]? = some all[k] := List.getElem?_eq_getElem h2
      rw [hkeep k _ ho (hwet.pre k _ (by omega) ho).1]
      exact ih (by omega) (by omega)
  -- a writer behind the first is a store
  have hstore : ∀ (k : Nat) (o : Oper), a < k → all[k]? = some o → writer o.op = true → isStore o.op = true := by
    intro k o h ho hwr
    have := hwet.post k o h ho
    simp only [wetPost, Bool.or_eq_true, Bool.and_eq_true] at this
    rcases this with h1 | h1 | h1
    · rw [pure_writer h1] at hwr; cases hwr
    · exact h1
    · rw [shape_writer h1.1] at hwr; cases hwr
  have notps : ∀ {o : Oper}, writer o.op = true → ¬ (pureOp o.op = true ∨ shapeOp o.op = true) := fun {o} hwr h => by
    rcases h with h | h
    · rw [pure_writer h] at hwr; cases hwr
    · rw [shape_writer h] at hwr; cases hwr
  -- whatever is no reader of nothing waits ahead of a store that is listed
  have hwait : ∀ (j : Nat) (oj : Oper) (k : Nat) (ok : Oper), all[j]? = some oj → isStore oj.op = true → S j = true → k < j → all[k]? = some ok → ¬ (pureOp ok.op = true ∨ shapeOp ok.op = true) → S k = true := by
    intro j oj k ok hj hs hSj hkj hk hn
    rcases hwet.pairs j oj hj hs k ok hkj hk with h | h | h
    · exact absurd (.inl h) hn
    · exact absurd (.inr h) hn
    · exact bound_in hcl 3 oj k (fun e he hb => hcl j oj hj hSj e he hb) h
  by_cases hwr : writer o.op = true
  · -- a writer: those ahead of it are listed, those behind it are not
    have hahead : ∀ k, k < i → (all[k]?).any (fun o => writer o.op) = true → S k = true := by
      intro k hk hkw
      have hkl : k < all.length := by omega
      have ho : all[k]? = some all[k] := List.getElem?_eq_getElem hkl
      have hkw' := (hisw ho).1 hkw
      have hia : a < i := by
        rcases Nat.lt_or_ge k a with h | h
        · rw [(hwet.pre k _ h ho).1] at hkw'; cases hkw'
        · omega
      rcases hwet.pairs i o hoi (hstore i o hia hoi hwr) k _ hk ho with h | h | h
      · exact absurd (.inl h) (notps hkw')
      · exact absurd (.inr h) (notps hkw')
      · exact bound_in hcl 3 o k hready h
    have hbehind : ∀ k, i < k → k < all.length → (all[k]?).any (fun o => writer o.op) = true → S k = false := by
      intro k hk hkl hkw
      have ho : all[k]? = some all[k] := List.getElem?_eq_getElem hkl
      have hkw' := (hisw ho).1 hkw
      have hai : a ≤ i := by
        rcases Nat.lt_or_ge i a with h | h
        · rw [(hwet.pre i _ h hoi).1] at hwr; cases hwr
        · exact h
      rcases Bool.eq_false_or_eq_true (S k) with h | h
      · have := hwait k _ i o ho (hstore k _ (by omega) ho hkw') h hk hoi (notps hwr)
        rw [hSi] at this; cases this
      · exact h
    have e1 : curM all ms S all.length = ms i := by
      rw [curM_past (i := i) all.length (by omega) (fun k h1 h2 h3 => ?_), curM_all hkeep i (by omega) hahead]
      by_cases hki : k = i
      · rw [hki]; exact hSi
      · exact hbehind k (by omega) h2 h3
    have e2 : curM all ms (fun k => if k = i then true else S k) all.length = ms (i + 1) := by
      rw [curM_past (i := i + 1) all.length (by omega) (fun k h1 h2 h3 => ?_), curM_all hkeep (i + 1) (by omega) (fun k h1 h2 => ?_)]
      · by_cases hki : k = i
        · rw [if_pos hki]
        · rw [if_neg hki]; exact hahead k (by omega) h2
      · rw [if_neg (by omega)]; exact hbehind k (by omega) h2 h3
    rw [e1, e2]
    exact hw.step i o hoi
  · -- no writer: the memory stays
    have hwr' : writer o.op = false := by simpa using hwr
    have e2 : curM all ms (fun k => if k = i then true else S k) all.length = curM all ms S all.length := by
      refine curM_congr _ fun k hk hkw => ?_
      by_cases hki : k = i
      · subst hki; exact absurd ((hisw hoi).1 hkw) hwr
      · simp [hki]
    rw [e2]
    rcases hw.step i o hoi with ⟨hg, hsem⟩ | ⟨hg, hv, _⟩
    · refine .inl ⟨hg, ?_⟩
      have hx := (hw.more i o hoi).more hg
      obtain ⟨k, hkl, hkm, hk0⟩ := curM_some (all := all) (ms := ms) (S := S) all.length (Nat.le_refl _)
      rw [hkm]
      by_cases hp : pureOp o.op = true
      · exact hx.pure hp _
      -- how the memories look
      have fwd : ∀ k, k ≤ all.length → Shape m (ms k) := by
        intro k
        induction k with
        | zero => intro _; rw [hw.mfirst]; exact Shape.refl m
        | succ k ih =>
          intro hk
          have ho : all[k]? = some all[k] := List.getElem?_eq_getElem hk
          refine (ih (by omega)).trans ?_
          by_cases hkw : writer all[k].op = true
          · by_cases hka : k = a
            · subst hka
              by_cases hst : isStore all[k].op = true
              · exact ((hw.more k _ ho).store hst).1
              · have hal : isAlloc all[k].op = true := by
                  simp only [writer, Bool.or_eq_true] at hkw
                  exact hkw.resolve_left hst
                refine ((hw.more k _ ho).alloc hal ?_).shape
                rw [hms0 k (Nat.le_refl _) (by omega)]; exact hfresh
            · have hak : a < k := by
                rcases Nat.lt_or_ge k a with h | h
                · rw [(hwet.pre k _ h ho).1] at hkw; cases hkw
                · omega
              exact ((hw.more k _ ho).store (hstore k _ hak ho hkw)).1
          · rw [hkeep k _ ho (by simpa using hkw)]; exact Shape.refl _
      by_cases hs : shapeOp o.op = true
      · refine hx.shape hs _ ?_
        by_cases hia : i ≤ a
        · rw [hms0 i hia (by omega)]; exact fwd k hkl
        · -- behind the first writer there is no allocation
          have hpo := hwet.post i o (by omega) hoi
          simp only [wetPost, Bool.or_eq_true, Bool.and_eq_true] at hpo
          have hal : al = false := by
            rcases hpo with h1 | h1 | h1
            · exact absurd h1 hp
            · rw [store_writer h1] at hwr'; cases hwr'
            · simpa using h1.2
          have bwd : ∀ k, k ≤ all.length → Shape (ms k) m := by
            intro k
            induction k with
            | zero => intro _; rw [hw.mfirst]; exact Shape.refl m
            | succ k ih =>
              intro hk
              have ho : all[k]? = some all[k] := List.getElem?_eq_getElem hk
              refine Shape.trans ?_ (ih (by omega))
              by_cases hkw : writer all[k].op = true
              · have hst : isStore all[k].op = true := by
                  rcases Nat.lt_trichotomy k a with h | h | h
                  · rw [(hwet.pre k _ h ho).1] at hkw; cases hkw
                  · subst h
                    have := (hwet.head _ ho).2
                    rw [hal] at this
                    simp only [writer, Bool.or_eq_true, this] at hkw
                    exact hkw.resolve_right (by simp)
                  · exact hstore k _ h ho hkw
                exact ((hw.more k _ ho).store hst).2
              · rw [hkeep k _ ho (by simpa using hkw)]; exact Shape.refl _
          exact (bwd i (by omega)).trans (fwd k hkl)
      -- a reader: no store is listed
      have hia : i < a := by
        rcases Nat.lt_trichotomy i a with h | h | h
        · exact h
        · subst h; rw [(hwet.head o hoi).1] at hwr'; cases hwr'
        · have hpo := hwet.post i o h hoi
          simp only [wetPost, Bool.or_eq_true, Bool.and_eq_true] at hpo
          rcases hpo with h1 | h1 | h1
          · exact absurd h1 hp
          · rw [store_writer h1] at hwr'; cases hwr'
          · exact absurd h1.1 hs
      have hmi := hms0 i (by omega) (by omega)
      have nostore : ∀ (j : Nat) (oj : Oper), all[j]? = some oj → S j = true → isStore oj.op = true → False := by
        intro j oj hj hSj hst
        have hij : i < j := by
          rcases Nat.lt_or_ge j a with h | h
          · have h1 := (hwet.pre j oj h hj).1
            rw [store_writer hst] at h1; cases h1
          · omega
        have := hwait j oj i o hj hst hSj hij hoi (fun h => h.elim hp hs)
        rw [hSi] at this; cases this
      rcases hk0 with rfl | ⟨j, oj, rfl, hSj, hj, hjw⟩
      · rw [hw.mfirst, ← hmi]
        have hst2 : ms (i + 1) = ms i := hkeep i o hoi hwr'
        rw [hst2] at hsem
        exact hsem
      · have hja : j = a := by
          rcases Nat.lt_trichotomy j a with h | h | h
          · rw [(hwet.pre j oj h hj).1] at hjw; cases hjw
          · exact h
          · exact (nostore j oj hj hSj (hstore j oj h hj hjw)).elim
        subst hja
        have hal : isAlloc oj.op = true := by
          simp only [writer, Bool.or_eq_true] at hjw
          exact hjw.resolve_left fun h => nostore j oj hj hSj h
        have halt : al = true := by rw [← (hwet.head oj hj).2]; exact hal
        have hpre := (hwet.pre i o hia hoi).2
        simp only [wetPre, halt, Bool.and_eq_true, Bool.not_true, Bool.false_or, Bool.or_eq_true] at hpre
        have hup : upOp o.op = true := by
          rcases hpre.2 with h | h | h
          · exact absurd h hp
          · exact absurd h hs
          · exact h
        refine hx.up rfl hup _ ?_
        have hmj := hms0 j (Nat.le_refl _) (by omega)
        rw [hmi, ← hmj]
        refine (hw.more j oj hj).alloc hal ?_
        rw [hmj]; exact hfresh
    · exact .inr ⟨hg, hv, rfl⟩
end
end Go.Sx
