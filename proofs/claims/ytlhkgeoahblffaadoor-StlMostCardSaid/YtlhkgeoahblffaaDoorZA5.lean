/-
  Sx33: regions in any order, with a call at their end, or with a call that panics.
  Sx15: code and calls: what the evaluator reaches, the machine reaches; a contract out of a tree.
  Sx16: what is known of a program, and how summaries are added one by one.
  Sx17: an argument that can be read as data is a datum of the evaluator.
  Sx18: trees without their memory; facts out of contracts; numbers that fit.
  Sx19: loops: from the head of a loop to the next, in a state of its own form; a law of descent.
-/
import Derived.Test.YtlhkgeoahblffaaDoorZA4
import Derived.ProofKit
set_option linter.unusedSimpArgs false
set_option linter.unusedVariables false
namespace Go.Sx
open Go.RowKit
section
variable {P : Program} {E : Env} {α : Type}

/-! ### A call at the end -/

inductive ChainL (P : Program) (all : List Oper) : List Oper → Fr → Mem → Fr → Mem → Prop where
  | last {o : Oper} {fr fr1 : Fr} {m m1 : Mem} {v : SV} (h : StepOK P all o fr m v m1) (hf : FSet fr o.dst v fr1) : ChainL P all [o] fr m fr1 m1
  | cons {o o2 : Oper} {rest : List Oper} {fr fr1 fr' : Fr} {m m' : Mem} {v : SV} (h : StepOK P all o fr m v m) (hf : FSet fr o.dst v fr1) (k : ChainL P all (o2 :: rest) fr1 m fr' m') : ChainL P all (o :: o2 :: rest) fr m fr' m'

theorem execOpsL_chain (hE : EOK P E) {callQ call : CallK α} (hcallQ : CallOK P true callQ) (hcall : CallOK P false call) {all : List Oper} {k : OpsK α} {L : α → Prop} : ∀ (ops : List Oper) (p : Plan) (fr : Fr) (m : Mem), ops ≠ [] → (execOpsL E callQ call all ops k p fr m).holds L →
    ∃ p' fr' m', (k p' fr' m').holds L ∧ ChainL P all ops fr m fr' m'
  | [], p, fr, m, hn, _ => absurd rfl hn
  | [o], p, fr, m, _, h => by
    change (oneOp E (fun _ => true) call all o k p fr m).holds L at h
    obtain ⟨p1, v, fr1, m1, h1, h2, h3, _⟩ := oneOp_holds hE hcall h
    exact ⟨p1, fr1, m1, h1, .last h2 h3⟩
  | o :: o2 :: rest, p, fr, m, _, h => by
    change (oneOp E (quiet E) callQ all o (execOpsL E callQ call all (o2 :: rest) k) p fr m).holds L at h
    have hq : quiet E o.op = true ∨ gval all fr.get o = some false := by
      unfold oneOp at h
      cases hg : o.guard with
      | none =>
        rw [hg] at h
        dsimp only at h
        split at h
        · rename_i hq; exact .inl hq
        · exact h.elim
      | some jw =>
        cases hq : quiet E o.op with
        | true => exact .inl rfl
        | false =>
          right
          rw [hg] at h
          dsimp only at h
          rw [nth_eq] at h
          split at h
          · rename_i oj hoj
            split at h
            · rename_i d hd
              have hb : (all[jw.1]?).bind (·.dst) = some d := by rw [hoj]; exact hd
              split at h
              · rename_i b hfr
                obtain ⟨p', h⟩ := dec_holds h
                obtain ⟨fr2, h1, h2⟩ := Fr.set_holds h
                split at h2
                · rw [hq] at h2; exact h2.elim
                · rename_i hbw
                  simp only [gval, hg, hb, hfr]; rw [hbw]
              · rename_i hfr
                simp only [gval, hg, hb, hfr]
              · exact h.elim
            · exact h.elim
          · exact h.elim
    obtain ⟨p1, v, fr1, m1, h1, h2, h3, h4⟩ := oneOp_holds hE hcallQ h
    have hm : m1 = m := by
      rcases hq with hq | hq
      · exact h4.quiet rfl hq
      · rcases h2 with ⟨hg, _⟩ | ⟨_, _, hm⟩
        · rw [hq] at hg; cases hg
        · exact hm
    subst hm
    obtain ⟨p', fr', m', h5, h6⟩ := execOpsL_chain hE hcallQ hcall (o2 :: rest) p1 fr1 m1 (by simp) h1
    exact ⟨p', fr', m', h5, .cons h2 h3 h6⟩

theorem ChainL.index {all : List Oper} : ∀ {ops : List Oper} {fr fr' : Fr} {m m' : Mem}, ChainL P all ops fr m fr' m' → ∃ (frs : Nat → Fr) (vals : Nat → SV), frs 0 = fr ∧ frs ops.length = fr' ∧
    (∀ i o, ops[i]? = some o → FSet (frs i) o.dst (vals i) (frs (i + 1))) ∧ (∀ i o, ops[i]? = some o → i + 1 < ops.length → StepOK P all o (frs i) m (vals i) m) ∧ ∀ i o, ops[i]? = some o → i + 1 = ops.length → StepOK P all o (frs i) m (vals i) m' := by
  intro ops fr fr' m m' h
  induction h with
  | @last o fr fr1 m m1 v hst hf =>
    refine ⟨fun i => Nat.casesOn i fr fun _ => fr1, fun _ => v, rfl, rfl, fun i o' hi => ?_, fun i o' hi hl => ?_, fun i o' hi hl => ?_⟩
    · cases i with
      | zero => simp at hi; subst hi; exact hf
      | succ i => simp at hi
    · simp at hl
    · cases i with
      | zero => simp at hi; subst hi; exact hst
      | succ i => simp at hi
  | @cons o o2 rest fr fr1 fr' m m' v hst hf k ih =>
    obtain ⟨frs, vals, h1, h2, h3, h4, h5⟩ := ih
    refine ⟨fun i => Nat.casesOn i fr frs, fun i => Nat.casesOn i v vals, rfl, h2, fun i o' hi => ?_, fun i o' hi hl => ?_, fun i o' hi hl => ?_⟩
    · cases i with
      | zero => simp at hi; subst hi; dsimp only; rw [h1]; exact hf
      | succ i => exact h3 i o' (by simpa using hi)
    · cases i with
      | zero => simp at hi; subst hi; exact hst
      | succ i => exact h4 i o' (by simpa using hi) (by simp at hl ⊢; omega)
    · cases i with
      | zero => simp at hl
      | succ i => exact h5 i o' (by simpa using hi) (by simp at hl ⊢; omega)

theorem lastB_all {all : List Oper} (h : lastB all = true) {S : Nat → Bool} (hcl : ∀ (j : Nat) (oj : Oper), all[j]? = some oj → S j = true → ∀ e ∈ oj.after, Region.binds .any e = true → S e.on = true) (hl : S (all.length - 1) = true) : ∀ i, i < all.length → S i = true := by
  have : ∀ d i, i + 1 + d = all.length → S i = true := by
    intro d
    induction d using Nat.strongRecOn with
    | _ d ih =>
      intro i hi
      by_cases h0 : i + 1 = all.length
      · rw [show i = all.length - 1 by omega]; exact hl
      · simp only [lastB, List.all_eq_true] at h
        have hoi : all[i]? = some all[i] := List.getElem?_eq_getElem (by omega)
        have h1 := h (all[i], i) (List.mem_zipIdx_iff_getElem?.2 hoi)
        have hb : Nat.beq (i + 1) all.length = false := by
          rw [← Bool.not_eq_true, Nat.beq_eq]; exact h0
        simp only [hb, Bool.false_or, List.any_eq_true, Bool.and_eq_true] at h1
        obtain ⟨⟨oj, j⟩, hj, h2, e, he, h3, h4⟩ := h1
        have hj := List.mem_zipIdx_iff_getElem?.1 hj
        have hlt : i < j := by rw [Nat.blt_eq] at h2; exact h2
        have hjl := (List.getElem?_eq_some_iff.1 hj).1
        have := hcl j oj hj (ih (all.length - (j + 1)) (by omega) j (by omega)) e (by simpa using he) h3
        rwa [Nat.eq_of_beq_eq_true h4] at this
  exact fun i hi => this (all.length - (i + 1)) i (by omega)

theorem last_step {all : List Oper} {m m' : Mem} {frs : Nat → Fr} {vals : Nat → SV} (hlb : lastB all = true)
    (h4 : ∀ i o, all[i]? = some o → i + 1 < all.length → StepOK P all o (frs i) m (vals i) m) (h5 : ∀ i o, all[i]? = some o → i + 1 = all.length → StepOK P all o (frs i) m (vals i) m')
    (S : Nat → Bool) (i : Nat) (o : Oper) (hoi : all[i]? = some o) (hSi : S i = false) (hcl : ∀ (j : Nat) (oj : Oper), all[j]? = some oj → S j = true → ∀ e ∈ oj.after, Region.binds .any e = true → S e.on = true) :
    StepOK P all o (frs i) (if S (all.length - 1) = true then m' else m) (vals i) (if (if all.length - 1 = i then true else S (all.length - 1)) = true then m' else m) := by
  have hil := (List.getElem?_eq_some_iff.1 hoi).1
  have hS : S (all.length - 1) = false := by
    rcases Bool.eq_false_or_eq_true (S (all.length - 1)) with h | h
    · rw [lastB_all hlb hcl h i hil] at hSi; cases hSi
    · exact h
  rw [hS]
  by_cases hl : i + 1 = all.length
  · rw [if_neg (by simp), if_pos (by rw [if_pos (by omega)])]
    exact h5 i o hoi hl
  · rw [if_neg (by simp), if_neg (by rw [if_neg (by omega)]; simp)]
    exact h4 i o hoi (by omega)

/-! ### A call that panics -/

theorem hasN_cons {x k : Nat} {l : List Nat} : hasN (x :: l) k = (Nat.beq x k || hasN l k) := rfl
theorem waitsOf_spec {c : Nat} : ∀ (l : List Oper) (i : Nat) (acc : List Nat),
    (∀ k, hasN acc k = true → hasN (waitsOf c l i acc) k = true) ∧ (∀ k, hasN (waitsOf c l i acc) k = true → hasN acc k = true ∨ i ≤ k) ∧
    (∀ j o, l[j]? = some o → i + j = c → hasN (waitsOf c l i acc) (i + j) = true) ∧
    (∀ j o, l[j]? = some o → hasN (waitsOf c l i acc) (i + j) = true → hasN acc (i + j) = true ∨ i + j = c ∨ ∃ e ∈ o.after, Region.binds .any e = true ∧ hasN (waitsOf c l i acc) e.on = true) ∧
    (∀ j o, l[j]? = some o → (∃ e ∈ o.after, Region.binds .any e = true ∧ hasN (waitsOf c l i acc) e.on = true ∧ e.on < i + j) → hasN (waitsOf c l i acc) (i + j) = true)
  | [], i, acc => ⟨fun _ h => h, fun _ h => .inl h, fun j o h => by simp at h, fun j o h => by simp at h, fun j o h => by simp at h⟩
  | o :: l, i, acc => by
    have e : waitsOf c (o :: l) i acc = (match Nat.beq i c || o.after.toList.any (fun e => Region.binds .any e && hasN acc e.on) with
      | true => waitsOf c l (i + 1) (i :: acc)
      | false => waitsOf c l (i + 1) acc) := rfl
    cases hb : Nat.beq i c || o.after.toList.any (fun e => Region.binds .any e && hasN acc e.on) with
    | true =>
      rw [hb] at e
      dsimp only at e
      rw [e]
      obtain ⟨q1, q2, q3, q4, q5⟩ := waitsOf_spec l (i + 1) (i :: acc)
      have hi : hasN (waitsOf c l (i + 1) (i :: acc)) i = true := q1 i (by rw [hasN_cons]; simp)
      refine ⟨fun k hk => q1 k (by rw [hasN_cons, hk]; simp), fun k hk => ?_, fun j o' hj hc => ?_, fun j o' hj hk => ?_, fun j o' hj hk => ?_⟩
      · rcases q2 k hk with h | h
        · rw [hasN_cons, Bool.or_eq_true] at h
          rcases h with h | h
          · exact .inr (Nat.le_of_eq (Nat.eq_of_beq_eq_true h))
          · exact .inl h
        · exact .inr (by omega)
      · cases j with
        | zero => exact hi
        | succ j => rw [show i + (j + 1) = i + 1 + j by omega] at hc ⊢; exact q3 j o' (by simpa using hj) hc
      · cases j with
        | zero =>
          simp at hj; subst hj
          rw [Bool.or_eq_true] at hb
          rcases hb with hb | hb
          · exact .inr (.inl (Nat.eq_of_beq_eq_true hb))
          · simp only [List.any_eq_true, Bool.and_eq_true] at hb
            obtain ⟨e', he, h1, h2⟩ := hb
            exact .inr (.inr ⟨e', by simpa using he, h1, q1 _ (by rw [hasN_cons, h2]; simp)⟩)
        | succ j =>
          rw [show i + (j + 1) = i + 1 + j by omega] at hk ⊢
          rcases q4 j o' (by simpa using hj) hk with h | h | h
          · rw [hasN_cons, Bool.or_eq_true] at h
            rcases h with h | h
            · have := Nat.eq_of_beq_eq_true h; omega
            · exact .inl h
          · exact .inr (.inl h)
          · exact .inr (.inr h)
      · cases j with
        | zero => exact hi
        | succ j =>
          rw [show i + (j + 1) = i + 1 + j by omega] at hk ⊢
          exact q5 j o' (by simpa using hj) hk
    | false =>
      rw [hb] at e
      dsimp only at e
      rw [e]
      obtain ⟨q1, q2, q3, q4, q5⟩ := waitsOf_spec l (i + 1) acc
      rw [Bool.or_eq_false_iff] at hb
      refine ⟨q1, fun k hk => ?_, fun j o' hj hc => ?_, fun j o' hj hk => ?_, fun j o' hj hk => ?_⟩
      · rcases q2 k hk with h | h
        · exact .inl h
        · exact .inr (by omega)
      · cases j with
        | zero => have := hb.1; rw [show i = c by omega] at this; simp at this
        | succ j => rw [show i + (j + 1) = i + 1 + j by omega] at hc ⊢; exact q3 j o' (by simpa using hj) hc
      · cases j with
        | zero =>
          rcases q2 _ hk with h | h
          · exact .inl h
          · omega
        | succ j =>
          rw [show i + (j + 1) = i + 1 + j by omega] at hk ⊢
          exact q4 j o' (by simpa using hj) hk
      · cases j with
        | zero =>
          simp at hj; subst hj
          obtain ⟨e', he, h1, h2, h3⟩ := hk
          have h4 : hasN acc e'.on = true := by
            rcases q2 _ h2 with h | h
            · exact h
            · omega
          have := hb.2
          rw [← Bool.not_eq_true, List.any_eq_true] at this
          exact absurd ⟨e', by simpa using he, by rw [h1, h4]; rfl⟩ this
        | succ j =>
          rw [show i + (j + 1) = i + 1 + j by omega] at hk ⊢
          exact q5 j o' (by simpa using hj) hk

/-- A walk of the operations of a set. -/
structure WalkD (all : List Oper) (D : Nat → Bool) (fr : Fr) (frs : Nat → Fr) (vals : Nat → SV) : Prop where
  first : frs 0 = fr
  next : ∀ i o, all[i]? = some o → (D i = true → FSet (frs i) o.dst (vals i) (frs (i + 1))) ∧ (D i = false → frs (i + 1) = frs i)

theorem cur_walkD {all : List Oper} {D : Nat → Bool} {fr : Fr} {frs : Nat → Fr} {vals : Nat → SV} (hw : WalkD all D fr frs vals) : ∀ (i : Nat), i ≤ all.length → ∀ t, (frs i).get t = cur all fr vals D i t
  | 0, _, t => by rw [hw.first]; rfl
  | i + 1, hi, t => by
    have hlt : i < all.length := hi
    have ho : all[i]? = some all[i] := List.getElem?_eq_getElem hlt
    have h := hw.next i _ ho
    simp only [cur, ho, Option.bind_some]
    rcases Bool.eq_false_or_eq_true (D i) with hD | hD
    · rw [(h.1 hD).2.2 t, cur_walkD hw i (by omega) t]
      simp only [hD, true_and]
    · rw [h.2 hD, cur_walkD hw i (by omega) t]
      simp [hD]
theorem WalkD.size {all : List Oper} {D : Nat → Bool} {fr : Fr} {frs : Nat → Fr} {vals : Nat → SV} (hw : WalkD all D fr frs vals) : ∀ (i : Nat), i ≤ all.length → (frs i).size = fr.size
  | 0, _ => by rw [hw.first]
  | i + 1, hi => by
    have ho : all[i]? = some all[i] := List.getElem?_eq_getElem hi
    have h := hw.next i _ ho
    rcases Bool.eq_false_or_eq_true (D i) with hD | hD
    · rw [(h.1 hD).1]; exact WalkD.size hw i (by omega)
    · rw [h.2 hD]; exact WalkD.size hw i (by omega)
theorem cur_free {all : List Oper} {fr : Fr} {vals : Nat → SV} {S : Nat → Bool} {t : Nat} (ht : ∀ (j : Nat) (oj : Oper), all[j]? = some oj → oj.dst ≠ some t) : ∀ n, cur all fr vals S n t = fr.get t
  | 0 => rfl
  | n + 1 => by
    simp only [cur]
    rw [if_neg, cur_free ht n]
    rintro ⟨_, h⟩
    cases ho : all[n]? with
    | none => rw [ho] at h; simp at h
    | some o => rw [ho] at h; exact ht n o ho (by simpa using h)

theorem any_pan {ds : List Deferred} {w0 : World} {R0 : Nat → Prop} {all : List Oper} {fr : Fr} {frs : Nat → Fr} {vals : Nat → SV} {D : Nat → Bool} {m m' : Mem} {v : SV} {c : Nat} {oc : Oper} (hw : WalkD all D fr frs vals) (hi : Indep all)
    (hstep : ∀ i o, all[i]? = some o → D i = true → StepOK P all o (frs i) m (vals i) m) (hc : all[c]? = some oc) (hcg : oc.guard = none) (hDc : D c = false) (hpan : SemPan P m v m' oc (evalIn (frs all.length)))
    (hdef : ∀ i o, all[i]? = some o → D i = false → i ≠ c → ∃ e ∈ o.after, Region.binds .any e = true ∧ D e.on = false) (hDcl : ∀ j oj, all[j]? = some oj → D j = true → ∀ e ∈ oj.after, Region.binds .any e = true → D e.on = true)
    {Q : Exit → Act → World → Prop} {ρ0 : Rho} {wa : World}
    (hQ : ∀ ρ' w' a u, MRel w0 R0 ρ' w' m' → fr.size = a.tmps.size → a.defers = ds → (∀ t, (∀ (j : Nat) (oj : Oper), all[j]? = some oj → oj.dst ≠ some t) → Rep (RO w0 R0 ρ' w' m') ρ' m'.next w' (fr.get t) (a.tmps.getD t Go.undef)) → MExt w0 R0 ρ0 wa m ρ' w' m' → Rep (RO w0 R0 ρ' w' m') ρ' m'.next w' v u → Q (.panic [{ v := u, recovered := false }]) a w') :
    ∀ (fuel : Nat) (listed : Array Bool) (ρ : Rho) (w : World) (a : Act), listed.size = all.length → unlisted listed all.length = fuel →
    (∀ j oj, all[j]? = some oj → listed.getD j true = true → ∀ e ∈ oj.after, Region.binds .any e = true → listed.getD e.on false = true) → (∀ k, k < all.length → listed.getD k true = true → D k = true) →
    MRel w0 R0 ρ w m → fr.size = a.tmps.size → a.defers = ds → (∀ t, Rep (RO w0 R0 ρ w m) ρ m.next w (cur all fr vals (fun i => listed.getD i true) all.length t) (a.tmps.getD t Go.undef)) → MExt w0 R0 ρ0 wa m ρ w m →
    wpAny P .any all.toArray Q fuel listed a w := by
  have hcl0 := (List.getElem?_eq_some_iff.1 hc).1
  have none_ready : ∀ (listed : Array Bool), listed.size = all.length → Region.ready .any all.toArray listed = [] → ∀ i, i < all.length → listed.getD i true = true := by
    intro listed hsz hr i
    induction i using Nat.strongRecOn with
    | _ i ih =>
      intro hil
      rcases Bool.eq_false_or_eq_true (listed.getD i true) with h | h
      · exact h
      · have : i ∈ Region.ready .any all.toArray listed := by
          rw [mem_ready]
          refine ⟨h, all[i], by simp [hil], fun e he hb => ?_⟩
          have hlt := hi.back i _ (List.getElem?_eq_getElem hil) e he hb
          have h1 := ih e.on hlt (by omega)
          rw [Array.getD_eq_getD_getElem?, Array.getElem?_eq_getElem (by omega)] at h1 ⊢
          simpa using h1
        rw [hr] at this
        cases this
  have never : ∀ (listed : Array Bool), (∀ k, k < all.length → listed.getD k true = true → D k = true) → (∀ i, i < all.length → listed.getD i true = true) → False := by
    intro listed h1 h2
    have := h1 c hcl0 (h2 c hcl0)
    rw [hDc] at this; cases this
  intro fuel
  induction fuel with
  | zero =>
    intro listed ρ w a hsz hun hcl hD hm hs hd hrep hps
    exact (never listed hD (unlisted_zero _ hun)).elim
  | succ fuel ih =>
    intro listed ρ w a hsz hun hcl hD hm hs hd hrep hps
    refine ⟨fun hr => (never listed hD (none_ready listed hsz hr)).elim, fun i hir => ?_⟩
    obtain ⟨hl, o, ho, hdeps⟩ := mem_ready.1 hir
    have hoi : all[i]? = some o := by simpa using ho
    have hil : i < all.length := (List.getElem?_eq_some_iff.1 hoi).1
    have before : ∀ j oj, all[j]? = some oj → j < i → oj.apart all.toArray o = false → listed.getD j true = true := by
      intro j oj hj hji hap
      rcases hi.pair j i oj o hji hj hoi with ⟨e, he, hb, heq⟩ | h
      · have := hdeps e he hb
        rw [heq, Array.getD_eq_getD_getElem?] at this
        have hjl : j < listed.size := by rw [hsz]; exact (List.getElem?_eq_some_iff.1 hj).1
        rw [Array.getElem?_eq_getElem hjl] at this
        rw [Array.getD_eq_getD_getElem?, Array.getElem?_eq_getElem hjl]
        simpa using this
      · rw [hap] at h; cases h
    have behind : ∀ j oj, all[j]? = some oj → i < j → o.apart all.toArray oj = false → listed.getD j true = false := by
      intro j oj hj hij hap
      rcases hi.pair i j o oj hij hoi hj with ⟨e, he, hb, heq⟩ | h
      · rcases Bool.eq_false_or_eq_true (listed.getD j true) with hc | hc
        · have := hcl j oj hj hc e he hb
          rw [heq, Array.getD_eq_getD_getElem?] at this
          rw [Array.getD_eq_getD_getElem?] at hl
          rw [Array.getElem?_eq_getElem (by omega)] at this hl
          simp at this hl; rw [this] at hl; cases hl
        · exact hc
      · rw [hap] at h; cases h
    have up : ∀ k, listed.getD k false = true → listed.getD k true = true := fun k hk => by
      rw [Array.getD_eq_getD_getElem?] at hk ⊢
      cases hx : listed[k]? with
      | none => rfl
      | some b => rw [hx] at hk; simpa using hk
    -- nothing that waits for the call is ready
    have hcase : i = c ∨ D i = true := by
      by_cases hic : i = c
      · exact .inl hic
      · right
        rcases Bool.eq_false_or_eq_true (D i) with h | h
        · exact h
        · obtain ⟨e, he, hb, h2⟩ := hdef i o hoi h hic
          have h3 := hD e.on (Nat.lt_trans (hi.back i o hoi e he hb) hil) (up _ (hdeps e he hb))
          rw [h2] at h3; cases h3
    have hyieldG : ∀ (F : Fr), (∀ t, t ∈ o.looksAt all.toArray → cur all fr vals (fun k => listed.getD k true) all.length t = F.get t) → ∀ g, gval all F.get o = some g → Region.wanted o (yielded all.toArray a.tmps) = g := fun F hF g hg =>
      yielded_of (R := RO w0 R0 ρ w m) (ρ := ρ) (n := m.next) (w := w) (fun j want d hgd hdd => by rw [← hF d (looks_guard hgd (by simpa using hdd))]; exact hrep d) hg
    have hebG : ∀ (F : Fr), (∀ t, t ∈ o.looksAt all.toArray → cur all fr vals (fun k => listed.getD k true) all.length t = F.get t) → ∀ x ∈ o.op.operands, Rep (RO w0 R0 ρ w m) ρ m.next w (evalIn F x) (a.eval x) := by
      intro F hF x hx
      cases x with
      | tmp t =>
        show Rep _ _ _ _ (F.get t) _
        rw [← hF t (looks_operand hx)]
        exact hrep t
      | const v => exact ofVal_rep v _ _ _ _
      | global g => exact rfl
      | func f => exact ⟨[], [], rfl, rfl, rfl⟩
    unfold wpOp
    rw [ho]
    dsimp only
    by_cases hic : i = c
    · subst hic
      rw [hc] at hoi
      injection hoi with hoi
      subst hoi
      have looks : ∀ t, t ∈ oc.looksAt all.toArray → cur all fr vals (fun k => listed.getD k true) all.length t = (frs all.length).get t := by
        intro t ht
        rw [cur_walkD hw _ (Nat.le_refl _)]
        refine cur_same _ fun j hj hd' => ?_
        have hd2 : all[j].dst = some t := by simpa [List.getElem?_eq_getElem hj] using hd'
        rcases Nat.lt_trichotomy j i with h | h | h
        · have h1 := before j _ (List.getElem?_eq_getElem hj) h (by simp [Oper.apart, hd2, ht])
          rw [h1, hD j hj h1]
        · subst h; rw [hl, hDc]
        · have h1 := behind j _ (List.getElem?_eq_getElem hj) h (by simp [Oper.apart, hd2, ht])
          rw [h1]
          rcases hi.pair i j oc _ h hc (List.getElem?_eq_getElem hj) with ⟨e, he, hb, heq⟩ | h2
          · rcases Bool.eq_false_or_eq_true (D j) with h3 | h3
            · have := hDcl j _ (List.getElem?_eq_getElem hj) h3 e he hb
              rw [heq, hDc] at this; cases this
            · exact h3.symm
          · have : oc.apart all.toArray all[j] = false := by simp [Oper.apart, hd2, ht]
            rw [this] at h2; cases h2
      rw [hyieldG _ looks true (by unfold gval; rw [hcg]), if_pos rfl]
      refine .inl ?_
      have h1 := hpan w0 R0 ρ w a.eval hm (hebG _ looks)
      unfold Oper.wp
      generalize (Go.execOp a.eval oc).run P w = r at h1
      have out : ∀ u w', OpOut w0 R0 ρ w m v m' u w' → Q (.panic [{ v := u, recovered := false }]) a w' := fun u w' ⟨ρ', g1, g2, g3⟩ =>
        hQ ρ' w' a u g1 hs hd (fun t ht => by
          have := Rep.mono g2 _ _ (hrep t)
          rwa [cur_free ht] at this) (hps.trans g2) g3
      match r, h1 with
      | .halt (.panic u) w', h1 => exact out u w' h1
      | .ok (.enter f args) w', h1 =>
        rw [Oper.upon_enter]
        exact Calls.mono h1 fun e w'' ⟨u, he, hu⟩ => by subst he; exact out u w'' hu
    · have hDi := hcase.resolve_left hic
      have looks : ∀ t, t ∈ o.looksAt all.toArray → cur all fr vals (fun k => listed.getD k true) all.length t = (frs i).get t := by
        intro t ht
        rw [cur_walkD hw i (by omega), cur_past (i := i) all.length (by omega) (fun j h1 h2 hd' => ?_)]
        · refine cur_same i fun j hj hd' => ?_
          have hjl : j < all.length := by omega
          have hd2 : all[j].dst = some t := by simpa [List.getElem?_eq_getElem hjl] using hd'
          have h1 := before j _ (List.getElem?_eq_getElem hjl) hj (by simp [Oper.apart, hd2, ht])
          rw [h1, hD j hjl h1]
        · by_cases hji : j = i
          · subst hji; exact hl
          · have hjl : j < all.length := h2
            refine behind j _ (List.getElem?_eq_getElem hjl) (by omega) ?_
            have hd2 : all[j].dst = some t := by simpa [List.getElem?_eq_getElem hjl] using hd'
            simp [Oper.apart, hd2, ht]
      have hset : ∀ k, k < all.length → (listed.setIfInBounds i true).getD k true = if k = i then true else listed.getD k true := by
        intro k hk
        by_cases hki : k = i
        · subst hki; simp [Array.getD_eq_getD_getElem?, Array.getElem?_setIfInBounds, hsz, hil]
        · rw [getD_set_ne true (Ne.symm hki), if_neg hki]
      have hcur : ∀ t, cur all fr vals (fun k => (listed.setIfInBounds i true).getD k true) all.length t = if o.dst = some t then vals i else cur all fr vals (fun k => listed.getD k true) all.length t := by
        intro t
        by_cases ht : o.dst = some t
        · rw [if_pos ht, cur_past (i := i + 1) all.length hil (fun j h1 h2 hd' => ?_)]
          · simp only [cur, hoi, Option.bind_some]
            rw [if_pos ⟨by rw [hset i hil]; simp, ht⟩]
          · rw [hset j h2, if_neg (by omega)]
            refine behind j _ (List.getElem?_eq_getElem h2) (by omega) ?_
            have hd2 : all[j].dst = some t := by simpa [List.getElem?_eq_getElem h2] using hd'
            simp [Oper.apart, hd2, ht]
        · rw [if_neg ht]
          refine cur_same _ fun j hj hd' => ?_
          rw [hset j hj]
          by_cases hji : j = i
          · subst hji
            rw [hoi] at hd'
            exact absurd (by simpa using hd') ht
          · rw [if_neg hji]
      have hun' : unlisted (listed.setIfInBounds i true) all.length = fuel := by
        have := unlisted_set all.length hil hl (by omega)
        omega
      have hcl' : ∀ j oj, all[j]? = some oj → (listed.setIfInBounds i true).getD j true = true → ∀ e ∈ oj.after, Region.binds .any e = true → (listed.setIfInBounds i true).getD e.on false = true := by
        intro j oj hj hlj e he hb
        have hjl : j < all.length := (List.getElem?_eq_some_iff.1 hj).1
        rw [hset j hjl] at hlj
        by_cases hji : j = i
        · subst hji
          rw [hoi] at hj; injection hj with hj; subst hj
          exact getD_set_true (hdeps e he hb)
        · rw [if_neg hji] at hlj
          exact getD_set_true (hcl j oj hj hlj e he hb)
      have hD' : ∀ k, k < all.length → (listed.setIfInBounds i true).getD k true = true → D k = true := fun k hk h => by
        rw [hset k hk] at h
        by_cases hki : k = i
        · subst hki; exact hDi
        · rw [if_neg hki] at h; exact hD k hk h
      have hfs := (hw.next i o hoi).1 hDi
      have putrep : ∀ (ρ' : Rho) (w' : World) (u : Value), MExt w0 R0 ρ w m ρ' w' m → Rep (RO w0 R0 ρ' w' m) ρ' m.next w' (vals i) u → ∀ t, Rep (RO w0 R0 ρ' w' m) ρ' m.next w' (cur all fr vals (fun k => (listed.setIfInBounds i true).getD k true) all.length t) ((a.put o.dst u).tmps.getD t Go.undef) := by
        intro ρ' w' u he hu t
        rw [hcur t]
        have h1 : ∀ d, o.dst = some d → d < a.tmps.size := fun d hd' => by rw [← hs, ← hw.size i (by omega)]; exact hfs.2.1 d hd'
        cases hdst : o.dst with
        | none => simpa [Act.put] using Rep.mono he _ _ (hrep t)
        | some d =>
          have hlt := h1 d hdst
          by_cases ht : d = t
          · subst ht
            simp [Act.put, Array.getElem?_setIfInBounds, hlt]; exact hu
          · have : ¬ (some d = some t) := fun e => ht (by injection e)
            rw [if_neg this]
            have h2 := Rep.mono he _ _ (hrep t)
            simpa [Act.put, Array.getElem?_setIfInBounds_ne ht] using h2
      have putsize : ∀ u, fr.size = (a.put o.dst u).tmps.size := fun u => by rw [hs]; cases o.dst <;> simp [Act.put]
      rcases hstep i o hoi hDi with ⟨hg, hsem⟩ | ⟨hg, hv, _⟩
      · rw [hyieldG _ looks _ hg, if_pos rfl]
        refine .inl ?_
        unfold Oper.wp
        refine upon_of_post (fun u w' hu => ?_) (hsem w0 R0 ρ w a.eval hm (hebG _ looks))
        obtain ⟨ρ', g1, g2, g3⟩ := hu
        exact ih _ ρ' w' _ (by simpa using hsz) hun' hcl' hD' g1 (putsize u) (by rw [put_defers]; exact hd) (putrep ρ' w' u g2 g3) (hps.trans g2)
      · rw [hyieldG _ looks _ hg]
        simp only [Bool.false_eq_true, if_false]
        exact ih _ ρ w _ (by simpa using hsz) hun' hcl' hD' hm (putsize _) (by rw [put_defers]; exact hd) (putrep ρ w Go.undef (Ext.refl _ _ _ _) (by rw [hv]; rfl)) hps

theorem oneOp_quiet (hE : EOK P E) {callQ : CallK α} (hcallQ : CallOK P true callQ) {all : List Oper} {o : Oper} {ih : OpsK α} {p : Plan} {fr : Fr} {m : Mem} {L : α → Prop} (h : (oneOp E (quiet E) callQ all o ih p fr m).holds L) :
    ∃ p' v fr1, (ih p' fr1 m).holds L ∧ StepOK P all o fr m v m ∧ FSet fr o.dst v fr1 := by
  have hq : quiet E o.op = true ∨ gval all fr.get o = some false := by
    unfold oneOp at h
    cases hg : o.guard with
    | none =>
      rw [hg] at h
      dsimp only at h
      split at h
      · rename_i hq; exact .inl hq
      · exact h.elim
    | some jw =>
      cases hq : quiet E o.op with
      | true => exact .inl rfl
      | false =>
        right
        rw [hg] at h
        dsimp only at h
        rw [nth_eq] at h
        split at h
        · rename_i oj hoj
          split at h
          · rename_i d hd
            have hb : (all[jw.1]?).bind (·.dst) = some d := by rw [hoj]; exact hd
            split at h
            · rename_i b hfr
              obtain ⟨p', h⟩ := dec_holds h
              obtain ⟨fr2, h1, h2⟩ := Fr.set_holds h
              split at h2
              · rw [hq] at h2; exact h2.elim
              · rename_i hbw
                simp only [gval, hg, hb, hfr]; rw [hbw]
            · rename_i hfr
              simp only [gval, hg, hb, hfr]
            · exact h.elim
          · exact h.elim
        · exact h.elim
  obtain ⟨p1, v, fr1, m1, h1, h2, h3, h4⟩ := oneOp_holds hE hcallQ h
  have hm : m1 = m := by
    rcases hq with hq | hq
    · exact h4.quiet rfl hq
    · rcases h2 with ⟨hg, _⟩ | ⟨_, _, hm⟩
      · rw [hq] at hg; cases hg
      · exact hm
  subst hm
  exact ⟨p1, v, fr1, h1, h2, h3⟩

theorem execPre_walk (hE : EOK P E) {callQ : CallK α} (hcallQ : CallOK P true callQ) {W : List Nat} {all : List Oper} {k : OpsK α} {L : α → Prop} : ∀ (ops : List Oper) (i : Nat) (p : Plan) (fr : Fr) (m : Mem), (execPre E callQ W all ops k i p fr m).holds L →
    ∃ p' fr', (k p' fr' m).holds L ∧ ∃ (frs : Nat → Fr) (vals : Nat → SV), frs 0 = fr ∧ frs ops.length = fr' ∧ ∀ j o, ops[j]? = some o → (hasN W (i + j) = false → FSet (frs j) o.dst (vals j) (frs (j + 1)) ∧ StepOK P all o (frs j) m (vals j) m) ∧ (hasN W (i + j) = true → frs (j + 1) = frs j)
  | [], i, p, fr, m, h => ⟨p, fr, h, fun _ => fr, fun _ => .undef, rfl, rfl, fun j o h => by simp at h⟩
  | o :: rest, i, p, fr, m, h => by
    have e : execPre E callQ W all (o :: rest) k i = (match hasN W i with
      | true => execPre E callQ W all rest k (i + 1)
      | false => oneOp E (quiet E) callQ all o (execPre E callQ W all rest k (i + 1))) := rfl
    rw [e] at h
    cases hW : hasN W i with
    | true =>
      rw [hW] at h
      obtain ⟨p', fr', h1, frs, vals, h2, h3, h4⟩ := execPre_walk hE hcallQ rest (i + 1) p fr m h
      refine ⟨p', fr', h1, fun j => Nat.casesOn j fr frs, fun j => Nat.casesOn j .undef vals, rfl, h3, fun j o' hj => ?_⟩
      cases j with
      | zero => exact ⟨fun hc => (by rw [Nat.add_zero, hW] at hc; cases hc), fun _ => h2⟩
      | succ j => rw [show i + (j + 1) = i + 1 + j by omega]; exact h4 j o' (by simpa using hj)
    | false =>
      rw [hW] at h
      obtain ⟨p1, v, fr1, g1, g2, g3⟩ := oneOp_quiet hE hcallQ h
      obtain ⟨p', fr', h1, frs, vals, h2, h3, h4⟩ := execPre_walk hE hcallQ rest (i + 1) p1 fr1 m g1
      refine ⟨p', fr', h1, fun j => Nat.casesOn j fr frs, fun j => Nat.casesOn j v vals, rfl, h3, fun j o' hj => ?_⟩
      cases j with
      | zero =>
        simp at hj; subst hj
        exact ⟨fun _ => ⟨(by dsimp only; rw [h2]; exact g3), g2⟩, fun hc => by rw [Nat.add_zero, hW] at hc; cases hc⟩
      | succ j => rw [show i + (j + 1) = i + 1 + j by omega]; exact h4 j o' (by simpa using hj)

theorem topK_holds {L : α → Prop} : ∀ (ops : List Oper) (fr : Fr) (k : Fr → Tree α), (topK ops fr k).holds L → ∃ fr', (k fr').holds L ∧ fr'.size = fr.size ∧ ∀ t, fr'.get t = .top ∨ (fr'.get t = fr.get t ∧ ∀ (j : Nat) (oj : Oper), ops[j]? = some oj → oj.dst ≠ some t)
  | [], fr, k, h => ⟨fr, h, rfl, fun t => .inr ⟨rfl, fun j oj h => by simp at h⟩⟩
  | o :: rest, fr, k, h => by
    have e : topK (o :: rest) fr k = (match o.dst with
      | some d => fr.set d .top fun fr => topK rest fr k
      | none => topK rest fr k) := rfl
    rw [e] at h
    cases hd : o.dst with
    | none =>
      rw [hd] at h
      obtain ⟨fr', h1, h2, h3⟩ := topK_holds rest fr k h
      refine ⟨fr', h1, h2, fun t => (h3 t).imp id fun ⟨g1, g2⟩ => ⟨g1, fun j oj hj => ?_⟩⟩
      cases j with
      | zero => simp at hj; subst hj; rw [hd]; simp
      | succ j => exact g2 j oj (by simpa using hj)
    | some d =>
      rw [hd] at h
      obtain ⟨fr1, q1, q2⟩ := Fr.set_holds h
      obtain ⟨fr', h1, h2, h3⟩ := topK_holds rest fr1 k q2
      refine ⟨fr', h1, h2.trans q1.1, fun t => ?_⟩
      rcases h3 t with g | ⟨g1, g2⟩
      · exact .inl g
      · by_cases ht : some d = some t
        · left; rw [g1, q1.2.2 t, if_pos ht]
        · right
          refine ⟨by rw [g1, q1.2.2 t, if_neg ht], fun j oj hj => ?_⟩
          cases j with
          | zero => simp at hj; subst hj; rw [hd]; exact ht
          | succ j => exact g2 j oj (by simpa using hj)
end
end Go.Sx
set_option linter.unusedSimpArgs false
set_option linter.unusedVariables false
namespace Go.Sx
open Go.RowKit
section moves
variable {P : Program} {b : Frame} {a : Act} {k : List Item} {cs : List Frame} {w : World}
theorem step_scope {x : Code} : step P (lone (b.at a (.code (.scope x) :: k)) cs w) = .next (lone (b.at a (.code x :: .inScope x :: k)) cs w) :=
  step_lone_go (by simp [stepG, stepG.exec, Frame.at])
theorem step_inScope {x : Code} : step P (lone (b.at a (.inScope x :: k)) cs w) = .next (lone (b.at a k) cs w) :=
  step_lone_go (by simp [stepG, stepG.exec, Frame.at])
end moves
section
variable {P : Program} {E : Env} {α : Type}

/-- From the one state of the evaluator to the other the machine goes, in whatever world. -/
def Reach (P : Program) (items : List Item) (fr : Fr) (m : Mem) (out : Out) : Prop :=
  ∀ ⦃ds : List Deferred⦄ w0 R0 ρ w a, SRelD ds w0 R0 ρ w fr m a → ∀ (b : Frame) (cs : List Frame), match out with
    | .ret _ fr' m' => ∃ ρ' w' a' todo, SRelD ds w0 R0 ρ' w' fr' m' a' ∧ MExt w0 R0 ρ w m ρ' w' m' ∧ Steps P (lone (b.at a items) cs w) (lone { b.at a' todo with mode := .returning } cs w')
    | .stop items' fr' m' => ∃ ρ' w' a', SRelD ds w0 R0 ρ' w' fr' m' a' ∧ MExt w0 R0 ρ w m ρ' w' m' ∧ Steps P (lone (b.at a items) cs w) (lone (b.at a' items') cs w')
    | .pan v fr' m' => ∃ ρ' w' a' todo u, SRelD ds w0 R0 ρ' w' fr' m' a' ∧ MExt w0 R0 ρ w m ρ' w' m' ∧ Rep (RO w0 R0 ρ' w' m') ρ' m'.next w' v u ∧ Steps P (lone (b.at a items) cs w) (lone { b.at a' todo with mode := .panicking [{ v := u, recovered := false }] } cs w')

theorem Reach.trans {items items' : List Item} {fr fr' : Fr} {m m' : Mem} {out : Out} (h : Reach P items fr m (.stop items' fr' m')) (k : Reach P items' fr' m' out) : Reach P items fr m out := by
  intro ds w0 R0 ρ w a hs b cs
  obtain ⟨ρ1, w1, a1, h1, h2, h3⟩ := h w0 R0 ρ w a hs b cs
  have h4 := k w0 R0 ρ1 w1 a1 h1 b cs
  cases out with
  | ret p fr2 m2 =>
    obtain ⟨ρ2, w2, a2, todo, g1, g2, g3⟩ := h4
    exact ⟨ρ2, w2, a2, todo, g1, h2.trans g2, h3.trans g3⟩
  | stop it fr2 m2 =>
    obtain ⟨ρ2, w2, a2, g1, g2, g3⟩ := h4
    exact ⟨ρ2, w2, a2, g1, h2.trans g2, h3.trans g3⟩
  | pan v fr2 m2 =>
    obtain ⟨ρ2, w2, a2, todo, u, g1, g2, g3, g4⟩ := h4
    exact ⟨ρ2, w2, a2, todo, u, g1, h2.trans g2, g3, h3.trans g4⟩

/-- One step of the machine that leaves the frame and the world alone. -/
theorem Reach.step {items items' : List Item} {fr : Fr} {m : Mem} (h : ∀ (b : Frame) (a : Act) cs w, (∀ x, ∃ R ρ n, Rep R ρ n w (evalIn fr x) (a.eval x)) → Go.step P (lone (b.at a items) cs w) = .next (lone (b.at a items') cs w)) : Reach P items fr m (.stop items' fr m) :=
  fun ds w0 R0 ρ w a hs b cs => ⟨ρ, w, a, hs, Ext.refl _ _ _ _, .one (h b a cs w fun x => ⟨_, _, _, hs.2.1.eval x⟩)⟩

theorem Reach.refl (items : List Item) (fr : Fr) (m : Mem) : Reach P items fr m (.stop items fr m) :=
  fun ds w0 R0 ρ w a hs b cs => ⟨ρ, w, a, hs, Ext.refl _ _ _ _, Steps.refl _ _⟩

/-- What is shown of the evaluator at some fuel. -/
def ExecOK (P : Program) (ih : ExecK α) : Prop :=
  ∀ items p fr m (κ : Out → Tree α) (L : α → Prop), (ih items p fr m κ).holds L → ∃ out, (κ out).holds L ∧ Reach P items fr m out

theorem callFunc_enter {f : FuncId} {fn : Func} {body : Code} (hf : P.funcs[f]? = some fn) (hb : fn.body = some body) (hn : (fn.name == "runtime.NumGoroutine") = false) (args : Array Value) (w : World) : (Go.callFunc f args).run P w = .ok (.enter f args) w := by
  simp only [Go.callFunc, Sem.run_bind, run_program, Result.andThen_ok, hf, hn, Bool.false_eq_true, if_false, hb, Option.isNone_some, Sem.run_pure]

/-- A call whose body is reached to its end. -/
theorem calls_of_reach {f : FuncId} {fn : Func} {body : Code} (hf : P.funcs[f]? = some fn) (hb : fn.body = some body) {fr fr' : Fr} {m m' : Mem} {p : Plan} (hr : Reach P [.code body] fr m (.ret p fr' m')) {v : SV}
    (hv : ∀ ⦃ds : List Deferred⦄ w0 R0 ρ w a, SRelD ds w0 R0 ρ w fr' m' a → ∃ u, (Go.results fn a.tmps).run P w = .ok u w ∧ Rep (RO w0 R0 ρ w m') ρ m'.next w v u) {w0 : World} {R0 : Nat → Prop} {ρ : Rho} {w : World} {vs : List Value} (hm : MRel w0 R0 ρ w m)
    (hfr : FRel (RO w0 R0 ρ w m) ρ m.next w fr (vs.toArray ++ Array.replicate (fn.ntmps - vs.toArray.size) Go.undef)) :
    Calls P f vs.toArray w fun e w' => ∃ u, e = .returned u ∧ ∃ ρ', MRel w0 R0 ρ' w' m' ∧ MExt w0 R0 ρ w m ρ' w' m' ∧ Rep (RO w0 R0 ρ' w' m') ρ' m'.next w' v u := by
  intro cs
  let b : Frame := { (default : Frame) with fn := f, kind := .normal }
  have henter : Frame.enter P f vs.toArray .normal = b.at { tmps := vs.toArray ++ Array.replicate (fn.ntmps - vs.toArray.size) Go.undef, defers := [] } [.code body] := by
    simp [Frame.enter, Frame.at, hf, hb, b]
  obtain ⟨ρ', w', a', todo, g1, g2, g3⟩ := hr w0 R0 ρ w { tmps := vs.toArray ++ Array.replicate (fn.ntmps - vs.toArray.size) Go.undef, defers := [] } ⟨hm, hfr, rfl⟩ b cs
  obtain ⟨u, h1, h2⟩ := hv w0 R0 ρ' w' a' g1
  refine ⟨.returned u, w', _, ⟨u, rfl, ρ', g1.1, g2, h2⟩, by rw [henter]; exact g3, rfl, rfl, g1.2.2, rfl, fn, hf, h1⟩

/-! ### Calls that are handed rows as data -/

mutual
theorem Rep.noRef {R R' : Nat → Prop} {ρ : Rho} {n : Nat} {w : World} : ∀ (x : SV) (v : Value), Go.Sx.noRef x = true → Rep R ρ n w x v → Rep R' ρ n w x v
  | .undef, _, _, h => h
  | .top, _, _, _ => trivial
  | .int _ _, _, _, h => h
  | .bool _, _, _, h => h
  | .str _, _, _, h => h
  | .nilS, _, _, h => h
  | .list _ _, _, hd, _ => by cases hd
  | .row _, _, _, h => h
  | .arr _ _ _, _, hd, _ => by cases hd
  | .ptr _ _, _, hd, _ => by cases hd
  | .nilP, _, _, h => h
  | .eptr _ _ _ _, _, hd, _ => by cases hd
  | .rptr _ _ _ _, _, hd, _ => by cases hd
  | .agg cs, v, hd, h => by
    obtain ⟨vs, h1, h2⟩ := h
    exact ⟨vs, h1, RepL.noRef cs vs hd h2⟩
  | .tuple cs, v, hd, h => by
    obtain ⟨vs, h1, h2⟩ := h
    exact ⟨vs, h1, RepL.noRef cs vs hd h2⟩
  | .fn _ _ _, _, hd, _ => by cases hd
  | .raw _, _, hd, _ => by cases hd
theorem RepL.noRef {R R' : Nat → Prop} {ρ : Rho} {n : Nat} {w : World} : ∀ (xs : List SV) (vs : List Value), Go.Sx.noRefL xs = true → RepL R ρ n w xs vs → RepL R' ρ n w xs vs
  | [], _, _, h => h
  | x :: xs, vs, hd, h => by
    obtain ⟨u, us, h1, h2, h3⟩ := h
    have hd : (Go.Sx.noRef x && Go.Sx.noRefL xs) = true := hd
    rw [Bool.and_eq_true] at hd
    exact ⟨u, us, h1, Rep.noRef x u hd.1 h2, RepL.noRef xs us hd.2 h3⟩
end

theorem RepD.flatT {R R' : Nat → Prop} {w : World} : ∀ (t : Ty) (x : t.T) (vs : List Value), t.flatT = true → RepD R w t x vs → RepD R' w t x vs
  | .unit, _, _, _, h => h
  | .int _, _, _, _, h => h
  | .bool, _, _, _, h => h
  | .str, _, _, _, h => h
  | .list _, _, _, hd, _ => by cases hd
  | .pair a b, x, vs, hd, h => by
    obtain ⟨v1, v2, h1, h2, h3⟩ := h
    have hd : (a.flatT && b.flatT) = true := hd
    rw [Bool.and_eq_true] at hd
    exact ⟨v1, v2, h1, RepD.flatT a _ _ hd.1 h2, RepD.flatT b _ _ hd.2 h3⟩

theorem Tb.get_filt {β : Type} (f : β → Bool) : ∀ (t : Tb β) (i : Nat), (t.filt f).get i = match t.get i with
    | some x => match f x with
      | true => some x
      | false => none
    | none => none
  | .e, i => rfl
  | .n l v r, 0 => rfl
  | .n l v r, j + 1 => by
    show (Tb.n (l.filt f) _ (r.filt f)).get (j + 1) = _
    rw [Tb.get_n_succ, Tb.get_n_succ]
    by_cases h : j % 2 = 0
    · rw [Tb.pick_even h, Tb.pick_even h, Tb.get_filt f l]
    · rw [Tb.pick_odd h, Tb.pick_odd h, Tb.get_filt f r]
theorem flats_get {m : Mem} {id : Nat} {B : Box} (h : m.flats.get id = some B) : m.get id = some B ∧ flatB B = true := by
  unfold Mem.flats Mem.get at h
  dsimp only at h
  rw [Tb.get_filt] at h
  split at h
  · rename_i x hx
    split at h
    · rename_i hf
      injection h with h; subst h
      exact ⟨hx, hf⟩
    · cases h
  · cases h
theorem MRel.flats {w0 : World} {R0 R1 : Nat → Prop} {ρ : Rho} {w : World} {m : Mem} (h : MRel w0 R0 ρ w m) : MRel w0 R1 ρ w m.flats := by
  refine ⟨h.below, fun id B hB => h.lt id B (flats_get hB).1, fun id B hB => h.lo id B (flats_get hB).1, fun id B hB => h.hi id B (flats_get hB).1, fun id id' B B' hB hB' => h.inj id id' B B' (flats_get hB).1 (flats_get hB').1, fun id B hB => ?_⟩
  obtain ⟨h1, h2⟩ := flats_get hB
  cases B with
  | cells cs => cases h2
  | iter s p => cases h2
  | obj _ _ => cases h2
  | rows t l =>
    obtain ⟨b1, b2, b3⟩ := h.box id _ h1
    refine ⟨b1, b2, fun h0 => ?_⟩
    obtain ⟨arr, e, fr, k1, k2, k3, k4⟩ := b3 h0
    refine ⟨arr, e, fr, k1, k2, k3, fun i hi => ?_⟩
    obtain ⟨cs, c1, c2, c3⟩ := k4 i hi
    exact ⟨cs, c1, c2, RepD.flatT t _ _ h2 c3⟩

theorem argR_rep {w0 : World} {R0 : Nat → Prop} {ρ : Rho} {w : World} {m : Mem} (h : MRel w0 R0 ρ w m) {R : Nat → Prop} (hR : ∀ b, b < w.heap.size → R b) : ∀ {xs : List SV} {vs : List Value}, RepL (RO w0 R0 ρ w m) ρ m.next w xs vs → dataL (xs.map (argR m)) = true → RepL R ρ 0 w (xs.map (argR m)) vs
  | [], _, hr, _ => hr
  | x :: xs, vs, hr, hd => by
    obtain ⟨u, us, rfl, r1, r2⟩ := hr
    have hd : dataL (argR m x :: xs.map (argR m)) = true := hd
    rw [dataL_cons] at hd
    cases hx : (argR m x).data with
    | false => rw [hx] at hd; cases hd
    | true =>
      rw [hx] at hd
      refine ⟨u, us, rfl, ?_, argR_rep h hR r2 hd⟩
      have hlt : ∀ b, RO w0 R0 ρ w m b → R b := fun b hb => hR b (h.ro_lt hb)
      have plain : argR m x = x → Rep R ρ 0 w (argR m x) u := fun e => by
        rw [e] at hx ⊢
        exact Rep.data hlt x u hx r1
      cases x with
      | row id =>
        cases hg : m.get id with
        | none => exact plain (by simp only [argR, hg])
        | some B =>
          cases B with
          | cells cs => exact plain (by simp only [argR, hg])
          | iter s p => exact plain (by simp only [argR, hg])
          | obj _ _ => exact plain (by simp only [argR, hg])
          | rows t l =>
            have e : argR m (.row id) = .list t l := by simp only [argR, hg]
            rw [e]
            obtain ⟨_, a, hu, ha⟩ := r1
            obtain ⟨b1, b2, hp⟩ := h.box id _ hg
            refine ⟨a, (ρ id).2.2, by rw [hu, b1], b2, fun h0 => ?_⟩
            have h0 : 0 < (ρ id).2.2 := Nat.lt_of_lt_of_le h0 b2
            obtain ⟨arr, e, fr, k1, k2, k3, k4⟩ := hp h0
            refine ⟨(ρ id).1, 0, ha h0, hR _ (h.hi id _ hg h0), fun i hi => ?_⟩
            obtain ⟨cs, c1, c2, c3⟩ := k4 i hi
            refine ⟨cs, c1, fun j hj => ?_, RepD.mono (fun b hb => ⟨hlt b hb, rfl⟩) _ _ _ c3⟩
            rw [cell_of_row w _ _ arr e fr k1, Nat.zero_add]
            exact c2 j hj
      | _ => exact plain rfl

theorem SemCall.congr {m m2 m' m2' : Mem} {v : SV} {f : FuncId} {args : List SV} (hg : ∀ id, m2.get id = m.get id) (hn : m2.next = m.next) (hg' : ∀ id, m2'.get id = m'.get id) (hn' : m2'.next = m'.next) (h : SemCall P m v m' f args) : SemCall P m2 v m2' f args := by
  intro w0 R0 ρ w vs hm hvs
  have h1 := h w0 R0 ρ w vs (hm.congr (fun id => (hg id).symm) hn.symm) (by rw [← RO.congr hg, ← hn]; exact hvs)
  exact OpPost.mono (fun u w' hu => hu.congr hg hn hg' hn') h1

theorem adopt_self {v : SV} {mc m : Mem} {k : SV → Mem → Tree α} {L : α → Prop} (h : (adopt v mc m k).holds L) : ∃ v' m', (k v' m').holds L ∧ ∀ (δ : Type) (k2 : SV → Mem → Tree δ), adopt v mc m k2 = k2 v' m' := by
  obtain ⟨v', _, _, _, _, ha⟩ := adopt_at h
  obtain ⟨m', _, _, hk⟩ := ha m rfl
  rw [hk] at h
  exact ⟨v', m', h, hk⟩

theorem callR_core (hE : EOK P E) {ih : ExecK α} (hih : ExecOK P ih) {f : FuncId} {args : List SV} {p : Plan} {m : Mem} {κ : Kont α} {L : α → Prop} (h : (callR E ih f args p m κ).holds L) :
    ∃ v0 mc p', (adopt v0 mc m fun v m => κ v p' m).holds L ∧ ∀ m2 v' m2', args.map (argR m2) = args.map (argR m) → (adopt v0 mc m2 fun v m => .leaf (v, m)).holds (fun y => y = (v', m2')) → SemCall P m2 v' m2' f args := by
  unfold callR at h
  split at h
  · rename_i fn hfn
    have hf := hE.fn f fn hfn
    split at h
    · rename_i body hb
      split at h
      · rename_i hn
        split at h
        · rename_i hd
          obtain ⟨fr, h1, h2, h3, h4⟩ := make_holds h
          obtain ⟨out, h5, h6⟩ := hih _ _ _ _ _ _ h1
          cases out with
          | stop it fr' m' => exact h5.elim
          | pan v fr' m' => exact h5.elim
          | ret p' fr' mc =>
            dsimp only at h5
            obtain ⟨v, h7, h8⟩ := results_holds hE h5
            split at h7
            · rename_i hnr
              refine ⟨v, mc.flats, p', h7, fun m2 v' m2' he ha w0 R0 ρ w vs hm hvs => ?_⟩
              obtain ⟨v1, m1, hl, hsem⟩ := adopt_holds ha
              injection hl with e1 e2
              subst e1 e2
              rw [callFunc_enter hf hb hn]
              have o1 : MRel w (fun b => b < w.heap.size) ρ w ⟨0, .e⟩ := ⟨⟨Below.refl _ _, hm.gnd⟩, fun id B h => (by cases h), fun id B h => (by cases h), fun id B h => (by cases h), fun id id' B B' h => (by cases h), fun id B h => (by cases h)⟩
              have hvs' := argR_rep hm (R := RO w (fun b => b < w.heap.size) ρ w ⟨0, .e⟩) (fun b hb => .inl ⟨hb, hb⟩) hvs (by rw [he]; exact hd)
              rw [he] at hvs'
              have hfr := frame_rel h2 h3 h4 hvs'
              refine Calls.mono (calls_of_reach hf hb h6 h8 o1 hfr) fun e w' ⟨u, he, ρ', g1, g2, g3⟩ => ⟨u, he, ?_⟩
              exact hsem w0 R0 ρ w ρ' w' u hm g1.flats (Rep.noRef v u hnr g3)
            · exact h7.elim
        · exact h.elim
      · exact h.elim
    · exact h.elim
  · exact h.elim

theorem callD_core (hE : EOK P E) {ih : ExecK α} (hih : ExecOK P ih) {f : FuncId} {args : List SV} {p : Plan} {m : Mem} {κ : Kont α} {L : α → Prop} (h : (callD E ih f args p m κ).holds L) :
    ∃ v0 mc p', (adopt v0 mc m fun v m => κ v p' m).holds L ∧ ∀ m2 v' m2', (adopt v0 mc m2 fun v m => .leaf (v, m)).holds (fun y => y = (v', m2')) → SemCall P m2 v' m2' f args := by
  unfold callD at h
  split at h
  · rename_i fn hfn
    have hf := hE.fn f fn hfn
    split at h
    · rename_i body hb
      split at h
      · rename_i hn
        split at h
        · rename_i hd
          obtain ⟨fr, h1, h2, h3, h4⟩ := make_holds h
          obtain ⟨out, h5, h6⟩ := hih _ _ _ _ _ _ h1
          cases out with
          | stop it fr' m' => exact h5.elim
          | pan v fr' m' => exact h5.elim
          | ret p' fr' mc =>
            dsimp only at h5
            obtain ⟨v, h7, h8⟩ := results_holds hE h5
            refine ⟨v, mc, p', h7, fun m2 v' m2' ha w0 R0 ρ w vs hm hvs => ?_⟩
            obtain ⟨v1, m1, hl, hsem⟩ := adopt_holds ha
            injection hl with e1 e2
            subst e1 e2
            rw [callFunc_enter hf hb hn]
            obtain ⟨o1, o2⟩ := own_mem hm ρ
            have hfr := frame_rel h2 h3 h4 (RepL.data (R' := RO w (RO w0 R0 ρ w m2) ρ w ⟨0, .e⟩) (ρ' := ρ) (n' := 0) o2 args vs hd hvs)
            refine Calls.mono (calls_of_reach hf hb h6 h8 o1 hfr) fun e w' ⟨u, he, ρ', g1, g2, g3⟩ => ⟨u, he, ?_⟩
            exact hsem w0 R0 ρ w ρ' w' u hm g1 g3
        · exact h.elim
      · exact h.elim
    · exact h.elim
  · exact h.elim

theorem callG_ok (hE : EOK P E) (hS : SumOK P E) {ih : ExecK α} (hih : ExecOK P ih) : CallGOK P (callG E ih) := by
  have fin : ∀ (f : FuncId) (args : List SV) (v0 : SV) (mc m : Mem) (p' : Plan) (κ : Kont α) (L : α → Prop), (adopt v0 mc m fun v m => κ v p' m).holds L →
      (∀ m2 v' m2', args.map (argR m2) = args.map (argR m) → (adopt v0 mc m2 fun v m => .leaf (v, m)).holds (fun y => y = (v', m2')) → SemCall P m2 v' m2' f args) →
      ∃ v p' m', (κ v p' m').holds L ∧ m.next ≤ m'.next ∧ ∀ (F : List Nat) (m2 m2' : Mem), (∀ id, mentL id args = true → id ∈ F) → (∀ id ∈ F, m2.get id = m.get id) → m2.next = m.next →
        (∀ id, m2'.get id = if id ∈ F ++ List.range' m.next (m'.next - m.next) then m'.get id else m2.get id) → m2'.next = m'.next → SemCall P m2 v m2' f args := by
    intro f args v0 mc m p' κ L h hsem
    obtain ⟨v, m', h1, h2, h3, h4⟩ := adopt_at h
    refine ⟨v, p', m', h1, h2, fun F m2 m2' hF ha hn hp hn' => ?_⟩
    obtain ⟨m3, n3, e3, k3⟩ := h4 m2 hn
    have hargs : args.map (argR m2) = args.map (argR m) := by
      refine List.map_congr_left fun x hx => ?_
      cases x <;> try rfl
      rename_i id
      have := ha id (hF id (mentL_mem hx (by simp [ment])))
      simp only [argR, this]
    refine (hsem m2 v m3 hargs (by rw [k3]; exact rfl)).congr (fun _ => rfl) rfl (fun id => ?_) (by rw [hn', n3])
    rw [hp id, e3 id]
    simp only [List.mem_append, mem_range1]
    by_cases c : m.next ≤ id ∧ id < m'.next
    · rw [if_pos c, if_pos (.inr ⟨c.1, by omega⟩)]
    · rw [if_neg c]
      by_cases c2 : id ∈ F
      · rw [if_pos (.inl c2), h3 id c, ← ha id c2]
      · rw [if_neg (fun d => d.elim c2 fun d => c ⟨d.1, by omega⟩)]
  intro f args p m κ L h
  unfold callG at h
  split at h
  · exact h.elim
  · split at h
    · exact h.elim
    · split at h
      · rename_i s hs
        split at h
        · rename_i id off rest
          split at h
          · rename_i h0
            have h0 := Nat.eq_of_beq_eq_true h0
            subst h0
            split at h
            · rename_i B hB
              split at h
              · rename_i t ht
                obtain ⟨v, B', p', h1, h2⟩ := bindB_holds t p h (hS.2.2.2 f s rest B t hs ht)
                obtain ⟨m', h3, h4⟩ := Mem.set_holds h1
                refine ⟨v, p', m', h4, by rw [h3.2]; exact Nat.le_refl _, fun F m2 m2' hF ha hn hp hn' => ?_⟩
                have hidF : id ∈ F := hF id (mentL_mem List.mem_cons_self (by simp [ment]))
                refine h2 m2 m2' id ((ha id hidF).trans hB) ⟨fun k => ?_, by rw [hn', h3.2, hn]⟩
                rw [hp k, h3.2, Nat.sub_self, List.range'_zero, List.append_nil, h3.1 k]
                by_cases hk : k ∈ F
                · rw [if_pos hk]
                  by_cases hki : k = id
                  · rw [if_pos hki, if_pos hki]
                  · rw [if_neg hki, if_neg hki, ha k hk]
                · rw [if_neg hk, if_neg (fun c => hk (by rw [c]; exact hidF))]
              · exact h.elim
            · exact h.elim
          · exact h.elim
        · exact h.elim
      · split at h
        · obtain ⟨v0, mc, p', h1, h2⟩ := callR_core hE hih h
          exact fin f args v0 mc m p' κ L h1 h2
        · obtain ⟨v0, mc, p', h1, h2⟩ := callD_core hE hih h
          exact fin f args v0 mc m p' κ L h1 fun m2 v' m2' _ => h2 m2 v' m2'

theorem callIn_ok (hE : EOK P E) (hS : SumOK P E) {ih : ExecK α} (hih : ExecOK P ih) : CallOK P false (callIn E ih) := by
  intro f args p m κ L h
  unfold callIn at h
  split at h
  · rename_i s hs
    split at h
    · rename_i t ht
      obtain ⟨v, p', h1, h2⟩ := bindT_holds t p h (hS.1 f s args t hs ht)
      exact ⟨v, p', m, h1, fun hq => (by cases hq), h2 m⟩
    · exact h.elim
  · split at h
    · rename_i s hs
      split at h
      · rename_i t ht
        obtain ⟨x, p', h1, h2⟩ := bindM_holds t p h (hS.2.1 f s args m t hs ht)
        exact ⟨x.1, p', x.2, h1, fun hq => (by cases hq), h2⟩
      · exact h.elim
    split at h
    · obtain ⟨v0, mc, p', h1, h2⟩ := callR_core hE hih h
      obtain ⟨v', m', h3, h4⟩ := adopt_self h1
      exact ⟨v', p', m', h3, fun hq => (by cases hq), h2 m v' m' rfl (by rw [h4]; exact rfl)⟩
    split at h
    · rename_i fn hfn
      have hf := hE.fn f fn hfn
      split at h
      · rename_i body hb
        split at h
        · rename_i hn
          split at h
          · rename_i hd
            obtain ⟨fr, h1, h2, h3, h4⟩ := make_holds h
            obtain ⟨out, h5, h6⟩ := hih _ _ _ _ _ _ h1
            cases out with
            | stop it fr' m' => exact h5.elim
            | pan v fr' m' => exact h5.elim
            | ret p' fr' mc =>
              dsimp only at h5
              obtain ⟨v, h7, h8⟩ := results_holds hE h5
              obtain ⟨v', m', h9, h10⟩ := adopt_holds h7
              refine ⟨v', p', m', h9, fun hq => (by cases hq), fun w0 R0 ρ w vs hm hvs => ?_⟩
              rw [callFunc_enter hf hb hn]
              obtain ⟨o1, o2⟩ := own_mem hm ρ
              have hfr := frame_rel h2 h3 h4 (RepL.data (R' := RO w (RO w0 R0 ρ w m) ρ w ⟨0, .e⟩) (ρ' := ρ) (n' := 0) o2 args vs hd hvs)
              refine Calls.mono (calls_of_reach hf hb h6 h8 o1 hfr) fun e w' ⟨u, he, ρ', g1, g2, g3⟩ => ⟨u, he, ?_⟩
              exact h10 w0 R0 ρ w ρ' w' u hm g1 g3
          · obtain ⟨fr, h1, h2, h3, h4⟩ := make_holds h
            obtain ⟨out, h5, h6⟩ := hih _ _ _ _ _ _ h1
            cases out with
            | stop it fr' m' => exact h5.elim
            | pan v fr' m' => exact h5.elim
            | ret p' fr' mc =>
              dsimp only at h5
              obtain ⟨v, h7, h8⟩ := results_holds hE h5
              refine ⟨v, p', mc, h7, fun hq => (by cases hq), fun w0 R0 ρ w vs hm hvs => ?_⟩
              rw [callFunc_enter hf hb hn]
              exact calls_of_reach hf hb h6 h8 hm (frame_rel h2 h3 h4 hvs)
        · exact h.elim
      · exact h.elim
    · exact h.elim

theorem callQ_ok (hE : EOK P E) (hS : SumOK P E) {ih : ExecK α} (hih : ExecOK P ih) : CallOK P true (callQ E ih) := by
  intro f args p m κ L h
  unfold callQ at h
  split at h
  · rename_i s hs
    split at h
    · rename_i t ht
      obtain ⟨v, p', h1, h2⟩ := bindT_holds t p h (hS.1 f s args t hs ht)
      exact ⟨v, p', m, h1, fun _ => ⟨rfl, h2⟩, h2 m⟩
    · exact h.elim
  · split at h
    · rename_i fn hfn
      have hf := hE.fn f fn hfn
      split at h
      · rename_i body hb
        split at h
        · rename_i hn
          split at h
          · rename_i hd
            obtain ⟨fr, h1, h2, h3, h4⟩ := make_holds h
            obtain ⟨out, h5, h6⟩ := hih _ _ _ _ _ _ h1
            cases out with
            | stop it fr' m' => exact h5.elim
            | pan v fr' m' => exact h5.elim
            | ret p' fr' mc =>
              dsimp only at h5
              obtain ⟨v, h7, h8⟩ := results_holds hE h5
              split at h7
              · rename_i hvd
                suffices key : ∀ m, SemCall P m v m f args from ⟨v, p', m, h7, fun _ => ⟨rfl, key⟩, key m⟩
                intro m w0 R0 ρ w vs hm hvs
                rw [callFunc_enter hf hb hn]
                obtain ⟨o1, o2⟩ := own_mem hm ρ
                have hfr := frame_rel h2 h3 h4 (RepL.data (R' := RO w (RO w0 R0 ρ w m) ρ w ⟨0, .e⟩) (ρ' := ρ) (n' := 0) o2 args vs hd hvs)
                refine Calls.mono (calls_of_reach hf hb h6 h8 o1 hfr) fun e w' ⟨u, he, ρ', g1, g2, g3⟩ => ⟨u, he, ?_⟩
                have hst := Hand.start hm g1
                obtain ⟨k1, k2⟩ := hst.finish hm g1
                exact ⟨ρ, k1, k2, Rep.data (fun b hb => hst.ro b (.inr hb)) v u hvd g3⟩
              · exact h7.elim
          · exact h.elim
        · exact h.elim
      · exact h.elim
    · exact h.elim

/-- What is known where a region begins. -/
def Start (fr : Fr) (m : Mem) : Prop := m.get m.next = none ∧ (∀ id B, m.get id = some B → id < m.next ∧ ∀ k, m.next ≤ k → mentB k (some B) = false) ∧ ∀ t k, m.next ≤ k → ment k (fr.get t) = false
theorem SRelD.start {ds : List Deferred} {w0 : World} {R0 : Nat → Prop} {ρ : Rho} {w : World} {fr : Fr} {m : Mem} {a : Act} (h : SRelD ds w0 R0 ρ w fr m a) : Start fr m := by
  obtain ⟨hm, hfr, _⟩ := h
  refine ⟨hm.fresh, fun id B hB => ⟨hm.lt id B hB, fun k hk => ?_⟩, fun t k hk => ?_⟩
  · cases B with
    | rows t l => rfl
    | iter s p => rfl
    | obj t cs =>
      obtain ⟨arr, _, h3⟩ := hm.box id _ hB
      rcases Bool.eq_false_or_eq_true (mentL k cs) with h | h
      · have := RepL.bound cs _ h3 h; omega
      · exact h
    | cells cs =>
      obtain ⟨arr, e, fr, _, _, h3⟩ := hm.box id _ hB
      rcases Bool.eq_false_or_eq_true (mentL k cs) with h | h
      · have := RepL.bound cs _ h3 h; omega
      · exact h
  · rcases Bool.eq_false_or_eq_true (ment k (fr.get t)) with h | h
    · have := Rep.bound _ _ (hfr.2 t) h; omega
    · exact h
/-- The same memory, with names kept for more boxes. -/
theorem MRel.bump {w0 : World} {R0 : Nat → Prop} {ρ : Rho} {w : World} {m m2 : Mem} (h : MRel w0 R0 ρ w m) (hg : ∀ id, m2.get id = m.get id) (hn : m.next ≤ m2.next) : MRel w0 R0 ρ w m2 ∧ MExt w0 R0 ρ w m ρ w m2 := by
  have e : MExt w0 R0 ρ w m ρ w m2 := ⟨hn, fun _ _ => rfl, fun b hb => ⟨by rw [RO.congr hg]; exact hb, rfl⟩⟩
  refine ⟨⟨h.below, fun id B hB => ?_, fun id B hB => h.lo id B (by rw [← hg]; exact hB), fun id B hB => h.hi id B (by rw [← hg]; exact hB), fun id id' B B' hB hB' => h.inj id id' B B' (by rw [← hg]; exact hB) (by rw [← hg]; exact hB'), fun id B hB => ?_⟩, e⟩
  · have := h.lt id B (by rw [← hg]; exact hB); omega
  · exact BoxRel.mono e B (fun _ => rfl) (h.box id B (by rw [← hg]; exact hB))
theorem idOf_mem : ∀ {refs : List (Nat × Nat)} {c k : Nat}, idOf refs c = some k → (c, k) ∈ refs
  | x :: l, c, k, h => by
    unfold idOf at h
    split at h
    · rename_i hx
      injection h with h; subst h
      rw [← Nat.eq_of_beq_eq_true hx]; exact List.mem_cons_self
    · exact List.mem_cons_of_mem _ (idOf_mem h)
theorem refsOf_range : ∀ (l : List Oper) (i k : Nat) {c j : Nat}, (c, j) ∈ refsOf l i k → k ≤ j ∧ j < k + (refsOf l i k).length
  | [], i, k, c, j, h => by cases h
  | o :: l, i, k, c, j, h => by
    have e : refsOf (o :: l) i k = match isAlloc o.op with
      | true => (i, k) :: refsOf l (i + 1) (k + 1)
      | false => refsOf l (i + 1) k := rfl
    rw [e] at h ⊢
    cases ha : isAlloc o.op with
    | true =>
      rw [ha] at h
      dsimp only at h ⊢
      rcases List.mem_cons.1 h with h | h
      · injection h with h1 h2; simp; omega
      · have := refsOf_range l (i + 1) (k + 1) h; simp; omega
    | false => rw [ha] at h; exact refsOf_range l (i + 1) k h

theorem oneOpP_holds (hE : EOK P E) (hS : SumOK P E) {call : CallK α} (hcall : CallOK P false call) {esc : SV → Fr → Mem → Tree α} {all : List Oper} {o : Oper} {ih : OpsK α} {p : Plan} {fr : Fr} {m : Mem} {L : α → Prop} (h : (oneOpP E call esc all o ih p fr m).holds L) :
    (∃ p' v fr1 m1, (ih p' fr1 m1).holds L ∧ StepOK P all o fr m v m1 ∧ FSet fr o.dst v fr1) ∨ ∃ v m', (esc v fr m').holds L ∧ o.guard = none ∧ SemPan P m v m' o (evalIn fr) := by
  have old : (oneOp E (fun _ => true) call all o ih p fr m).holds L → ∃ p' v fr1 m1, (ih p' fr1 m1).holds L ∧ StepOK P all o fr m v m1 ∧ FSet fr o.dst v fr1 := fun h => by
    obtain ⟨p', v, fr1, m1, h1, h2, h3, _⟩ := oneOp_holds hE hcall h
    exact ⟨p', v, fr1, m1, h1, h2, h3⟩
  unfold oneOpP at h
  split at h
  · exact .inl (old h)
  · rename_i hg
    split at h
    · rename_i x hop
      split at h
      · rename_i v0 hx
        split at h
        · rename_i t v1
          refine .inr ⟨_, m, h, hg, fun w0 R0 ρ w eb hm hev => ?_⟩
          have h1 := hev x (by rw [hop]; simp [Op.operands])
          rw [hx] at h1
          have h1 : eb x = .iface t v1 := h1
          obtain ⟨dst, op, ty, pos, after, guard⟩ := o
          dsimp only at hop
          subst hop
          simp only [Go.execOp, h1, Instr.panic]
          exact ⟨ρ, hm, Ext.refl _ _ _ _, rfl⟩
        · exact h.elim
      · exact h.elim
    · rename_i c hop
      split at h
      · rename_i g hc
        split at h
        · rename_i f
          split at h
          · rename_i s hs
            split at h
            · rename_i t ht
              have run : ∀ {w0 : World} {R0 : Nat → Prop} {ρ : Rho} {w : World} {eb : Operand → Value}, (∀ x ∈ o.op.operands, Rep (RO w0 R0 ρ w m) ρ m.next w (evalIn fr x) (eb x)) → RepL (RO w0 R0 ρ w m) ρ m.next w (c.args.toList.map (evalIn fr)) (c.args.toList.map eb) ∧ (eb (.func f) = .func (.func f) #[] #[] → (Go.execOp eb o).run P w = (Go.callFunc f (c.args.toList.map eb).toArray).run P w) := by
                intro w0 R0 ρ w eb hev
                refine ⟨RepL.map _ _ _ fun x hx => hev x (by rw [hop]; simp [Op.operands, Call.operands] at hx ⊢; simp [hx]), fun hf => ?_⟩
                obtain ⟨dst, op, ty, pos, after, guard⟩ := o
                dsimp only at hop
                subst hop
                simp only [Go.execOp, resolve, hc, hf, Deferred.ofValue, pure_bind, invoke]
                have e : (c.args.toList.map eb).toArray = (#[] : Array Value) ++ c.args.map eb ++ #[] := by apply Array.ext'; simp
                rw [e]
              have hfn : ∀ {w0 : World} {R0 : Nat → Prop} {ρ : Rho} {w : World} {eb : Operand → Value}, (∀ x ∈ o.op.operands, Rep (RO w0 R0 ρ w m) ρ m.next w (evalIn fr x) (eb x)) → eb (.func f) = .func (.func f) #[] #[] := by
                intro w0 R0 ρ w eb hev
                obtain ⟨vs, us, h4, h5, h6⟩ := hev (.func f) (by rw [hop]; simp [Op.operands, Call.operands, hc])
                have h5 : vs = [] := h5
                have h6 : us = [] := h6
                subst h5 h6
                exact h4
              rcases bindX_holds t p h (hS.2.2.1 f s _ m t hs ht) with ⟨v, m1, p', h1, h2⟩ | ⟨v, m1, h1, h2⟩
              · obtain ⟨fr1, h3, h4⟩ := putK_holds h1
                refine .inl ⟨p', v, fr1, m1, h4, .inl ⟨by simp [gval, hg], fun w0 R0 ρ w eb hm hev => ?_⟩, h3⟩
                obtain ⟨r1, r2⟩ := run hev
                rw [r2 (hfn hev)]
                exact h2 w0 R0 ρ w _ hm r1
              · refine .inr ⟨v, m1, h1, hg, fun w0 R0 ρ w eb hm hev => ?_⟩
                obtain ⟨r1, r2⟩ := run hev
                rw [r2 (hfn hev)]
                exact h2 w0 R0 ρ w _ hm r1
            · exact h.elim
          · exact .inl (old h)
        · exact .inl (old h)
      · exact .inl (old h)
    · exact .inl (old h)
theorem execOpsP_chain (hE : EOK P E) (hS : SumOK P E) {call : CallK α} (hcall : CallOK P false call) {esc : SV → Fr → Mem → Tree α} {all : List Oper} {k : OpsK α} {L : α → Prop} : ∀ (ops : List Oper) (p : Plan) (fr : Fr) (m : Mem), (execOpsP E call esc all ops k p fr m).holds L →
    (∃ p' fr' m', (k p' fr' m').holds L ∧ Chain P all ops fr m fr' m') ∨ ∃ v fr' m', (esc v fr' m').holds L ∧ ChainP P all ops fr m v fr' m'
  | [], p, fr, m, h => .inl ⟨p, fr, m, h, .nil fr m⟩
  | o :: rest, p, fr, m, h => by
    change (oneOpP E call esc all o (execOpsP E call esc all rest k) p fr m).holds L at h
    rcases oneOpP_holds hE hS hcall h with ⟨p1, v, fr1, m1, h1, h2, h3⟩ | ⟨v, m', h1, h2, h3⟩
    · rcases execOpsP_chain hE hS hcall rest p1 fr1 m1 h1 with ⟨p', fr', m', h5, h6⟩ | ⟨v', fr', m', h5, h6⟩
      · exact .inl ⟨p', fr', m', h5, .cons h2 h3 h6⟩
      · exact .inr ⟨v', fr', m', h5, .next h2 h3 h6⟩
    · exact .inr ⟨v, fr, m', h1, .here h2 h3⟩

theorem pnTree_spec {fr : Fr} {m : Mem} {o : Op} {t : Tree Ex} (h : pnTree E fr m o = some t) : ∃ f c, o = .call c ∧ c.callee = .value (.func f) ∧ ∃ s, E.pn f = some s ∧ s (c.args.toList.map (evalIn fr)) m = some t := by
  unfold pnTree at h
  split at h
  · rename_i c
    split at h
    · rename_i g hc
      split at h
      · rename_i f
        split at h
        · rename_i s hs
          exact ⟨f, c, rfl, hc, s, hs, h⟩
        · cases h
      · cases h
    · cases h
  · cases h
theorem semPan_call {m m1 : Mem} {v : SV} {o : Oper} {f : FuncId} {c : Call} {fr : Fr} (hop : o.op = .call c) (hc : c.callee = .value (.func f)) (h : XCall P f (c.args.toList.map (evalIn fr)) m (.pan v m1)) : SemPan P m v m1 o (evalIn fr) := by
  intro w0 R0 ρ w eb hm hev
  have r1 : RepL (RO w0 R0 ρ w m) ρ m.next w (c.args.toList.map (evalIn fr)) (c.args.toList.map eb) := RepL.map _ _ _ fun x hx => hev x (by rw [hop]; simp [Op.operands, Call.operands] at hx ⊢; simp [hx])
  have hf : eb (.func f) = .func (.func f) #[] #[] := by
    obtain ⟨vs, us, h4, h5, h6⟩ := hev (.func f) (by rw [hop]; simp [Op.operands, Call.operands, hc])
    have h5 : vs = [] := h5
    have h6 : us = [] := h6
    subst h5 h6
    exact h4
  have e1 : (Go.execOp eb o).run P w = (Go.callFunc f (c.args.toList.map eb).toArray).run P w := by
    obtain ⟨dst, op, ty, pos, after, guard⟩ := o
    dsimp only at hop
    subst hop
    simp only [Go.execOp, resolve, hc, hf, Deferred.ofValue, pure_bind, invoke]
    have e : (c.args.toList.map eb).toArray = (#[] : Array Value) ++ c.args.map eb ++ #[] := by apply Array.ext'; simp
    rw [e]
  rw [e1]
  exact h w0 R0 ρ w _ hm r1

theorem region_reach (hE : EOK P E) (hS : SumOK P E) (hmix : P.follows .mixedOrders = true) {ih : ExecK α} (hih : ExecOK P ih) {id : Nat} {ops : Array Oper} {draw : Bool} {k : List Item} {p : Plan} {fr : Fr} {m : Mem} {κ : Out → Tree α} {L : α → Prop} (h : (codeStep E ih (.region id ops draw) k p fr m κ).holds L) :
    (∃ p' fr' m', (ih k p' fr' m' κ).holds L ∧ Reach P (.code (.region id ops draw) :: k) fr m (.stop k fr' m')) ∨ ∃ out, (κ out).holds L ∧ Reach P (.code (.region id ops draw) :: k) fr m out := by
  have fin : ∀ (fr' : Fr) (m' : Mem), (∀ (ds : List Deferred) w0 R0 ρ w a, SRelD ds w0 R0 ρ w fr m a → (Code.region id ops draw).wp P (fun e a' w' => e = .normal ∧ ∃ ρ', SRelD ds w0 R0 ρ' w' fr' m' a' ∧ MExt w0 R0 ρ w m ρ' w' m') a w) → Reach P (.code (.region id ops draw) :: k) fr m (.stop k fr' m') := by
    intro fr' m' hw ds w0 R0 ρ w a hs b cs
    obtain ⟨e, a', w', ⟨rfl, ρ', g1, g2⟩, harr⟩ := hw ds w0 R0 ρ w a hs b k cs
    exact ⟨ρ', w', a', g1, g2, harr⟩
  dsimp only [codeStep] at h
  split at h
  · exact .inr ⟨_, h, Reach.refl _ _ _⟩
  cases draw with
  | false =>
    rcases execOpsP_chain hE hS (callIn_ok hE hS hih) _ _ _ _ h with ⟨p', fr', m', h1, h2⟩ | ⟨v, fr', m', h1, h2⟩
    · refine .inl ⟨p', fr', m', h1, fin fr' m' fun ds w0 R0 ρ w a hs => wp_region ?_⟩
      have := chain_wpOps (Q := fun e a' w' => e = .normal ∧ ∃ ρ', SRelD ds w0 R0 ρ' w' fr' m' a' ∧ MExt w0 R0 ρ w m ρ' w' m') h2 0 rfl ρ w a hs (fun ρ' w' a' g1 g2 => ⟨rfl, ρ', g1, g2⟩)
      rw [← List.range_eq_range'] at this
      simpa using this
    · refine .inr ⟨_, h1, fun ds w0 R0 ρ w a hs b cs => ?_⟩
      have := chainP_wpOps (Q := fun e a' w' => ∃ u ρ', e = .panic [{ v := u, recovered := false }] ∧ SRelD ds w0 R0 ρ' w' fr' m' a' ∧ MExt w0 R0 ρ w m ρ' w' m' ∧ Rep (RO w0 R0 ρ' w' m') ρ' m'.next w' v u) h2 0 rfl ρ w a hs (fun ρ' w' a' u g1 g2 g3 => ⟨u, ρ', rfl, g1, g2, g3⟩)
      rw [← List.range_eq_range'] at this
      have hw : (Code.region id ops false).wp P (fun e a' w' => ∃ u ρ', e = .panic [{ v := u, recovered := false }] ∧ SRelD ds w0 R0 ρ' w' fr' m' a' ∧ MExt w0 R0 ρ w m ρ' w' m' ∧ Rep (RO w0 R0 ρ' w' m') ρ' m'.next w' v u) a w := wp_region (by simpa using this)
      obtain ⟨e, a', w', ⟨u, ρ', rfl, g1, g2, g3⟩, todo, harr⟩ := hw b k cs
      exact ⟨ρ', w', a', todo, u, g1, g2, g3, harr⟩
  | true =>
    dsimp only at h
    split at h
    · rename_i hlex
      have hlex' : Region.lexB .any ops.toList.toArray = true := by simpa using hlex
      have hns : Region.noSelect ops.toList.toArray = true := by
        have := hlex'; simp only [Region.lexB, Bool.and_eq_true] at this; exact this.1
      have hrep : ∀ k, k < ops.toList.length → (Array.replicate ops.toList.length false).getD k true = false := fun k h => by
        rw [Array.getD_eq_getD_getElem?, Array.getElem?_replicate, if_pos h]; rfl
      have ord : ∀ (fr' : Fr) (m' : Mem) (frs : Nat → Fr) (vals : Nat → SV) (M : (Nat → Bool) → Mem), Walk ops.toList fr fr' frs vals → (∀ S S', (∀ k, k < ops.toList.length → S k = S' k) → M S = M S') → ((∀ id, (M fun _ => true).get id = m'.get id) ∧ (M fun _ => true).next = m'.next) →
          ((∀ id, (M fun k => (Array.replicate ops.toList.length false).getD k true).get id = m.get id) ∧ m.next ≤ (M fun k => (Array.replicate ops.toList.length false).getD k true).next) →
          (Start fr m → ∀ (S : Nat → Bool) i o, ops.toList[i]? = some o → S i = false → (∀ j oj, ops.toList[j]? = some oj → S j = true → ∀ e ∈ oj.after, Region.binds .any e = true → S e.on = true) → (∀ e ∈ o.after, Region.binds .any e = true → S e.on = true) → StepOK P ops.toList o (frs i) (M S) (vals i) (M fun k => if k = i then true else S k) ∨ AllocAt P o m.next (vals i) (cur ops.toList fr vals S ops.toList.length) (M S) (M fun k => if k = i then true else S k)) →
          Reach P (.code (.region id ops true) :: k) fr m (.stop k fr' m') := by
        intro fr' m' frs vals M hwalk hMc eAll eNone hst
        refine fin fr' m' fun ds w0 R0 ρ w a hs => wp_region_any hmix ?_
        have hstart := hs.start
        obtain ⟨hm, hfr, hd⟩ := hs
        obtain ⟨hm0, he0⟩ := hm.drew
        obtain ⟨hm1, he1⟩ := hm0.bump eNone.1 eNone.2
        have he1 := he0.trans he1
        have hfr1 := hfr.mono he1
        have hcur0 : ∀ (n : Nat) t, cur ops.toList fr vals (fun i => (Array.replicate ops.toList.length false).getD i true) n t = fr.get t ∨ n > ops.toList.length := by
          intro n
          induction n with
          | zero => intro t; exact .inl rfl
          | succ n ih2 =>
            intro t
            rcases Nat.lt_or_ge ops.toList.length (n + 1) with hgt | hle
            · exact .inr hgt
            · left
              simp only [cur]
              rw [if_neg (fun hc => by have := hc.1; rw [hrep n (by omega)] at this; cases this)]
              exact (ih2 t).resolve_right (by omega)
        have key := any_order (w0 := w0) (R0 := R0) (M := M) m.next hwalk (indep_of_lexB hlex') hMc (hst hstart) hns (Q := fun e a' w' => e = .normal ∧ ∃ ρ', SRelD ds w0 R0 ρ' w' fr' m' a' ∧ MExt w0 R0 ρ w m ρ' w' m') (Ψ := fun ρ' w' mm => MExt w0 R0 ρ w m ρ' w' mm)
          (fun ρ1 w1 m1 k r w2 m2 hk h1 hn hkeep => ⟨by rw [hn]; exact h1.le, fun id hid => by rw [upd_other _ _ (by omega)]; exact h1.same id hid, fun b hb => by
            obtain ⟨g1, g2⟩ := h1.keep b hb
            obtain ⟨g3, g4⟩ := hkeep b g1
            exact ⟨g3, g4.trans g2⟩⟩)
          (fun _ _ _ _ _ _ h1 h2 => h1.trans h2) (fun ρ' w' a' g1 g2 => by
            obtain ⟨q1, q2, q3⟩ := g1
            refine ⟨rfl, ρ', ⟨q1.congr (fun id => (eAll.1 id).symm) eAll.2.symm, ?_, q3⟩, ?_⟩
            · rw [← RO.congr eAll.1, ← eAll.2]; exact q2
            · unfold MExt
              rw [← RO.congr eAll.1, ← eAll.2]; exact g2) ops.toList.length (Array.replicate ops.toList.length false) ρ w.drew a (by simp)
          (by
            have : ∀ n, n ≤ ops.toList.length → unlisted (Array.replicate ops.toList.length false) n = n := by
              intro n
              induction n with
              | zero => intro _; rfl
              | succ n ih2 =>
                intro hn
                simp only [unlisted, ih2 (by omega), hrep n (by omega)]
                simp
            exact this _ (Nat.le_refl _))
          (fun j oj hj hl => by
            have hjl := (List.getElem?_eq_some_iff.1 hj).1
            rw [Array.getD_eq_getD_getElem?, Array.getElem?_replicate, if_pos (by omega)] at hl
            cases hl)
          hm1 hfr1.1 hd (fun t => by rw [(hcur0 _ t).resolve_right (by omega)]; exact hfr1.2 t) he1
        simpa using key
      have tpart : ∀ p, (tRun E ih ops.toList (fun p fr m => ih k p fr m κ) p fr m).holds L → ∃ p' fr' m', (ih k p' fr' m' κ).holds L ∧ Reach P (.code (.region id ops true) :: k) fr m (.stop k fr' m') := by
        intro p h
        unfold tRun at h
        obtain ⟨p', fr', m', h1, h2⟩ := execOpsT_chain hE (callIn_ok hE hS hih) (callQ_ok hE hS hih) (callG_ok hE hS hih) _ _ _ _ _ _ h
        obtain ⟨frs, vals, ms, rs, hw⟩ := h2.toWalk
        have get : ∀ j, j < ops.toList.length → ∃ o, ops.toList[j]? = some o := fun j hj => ⟨_, List.getElem?_eq_getElem hj⟩
        have hkeep : ∀ id j, j < ops.toList.length → id ∉ (rs j).wt → (ms (j + 1)).get id = (ms j).get id := fun id j hj hid => by
          obtain ⟨o, ho⟩ := get j hj
          exact (hw.step j o ho).keep id hid
        have hsame : ∀ j, j < ops.toList.length → (rs j).g = false → (ms (j + 1)).next = (ms j).next := fun j hj => by
          obtain ⟨o, ho⟩ := get j hj
          exact (hw.step j o ho).same
        refine ⟨p', fr', m', h1, ord fr' m' frs vals (memS ops.toList ms rs) ⟨hw.first, hw.last, hw.next⟩ (fun S S' hS => ?_) ⟨fun id => ?_, ?_⟩ ⟨fun id => ?_, ?_⟩ (fun hst S i o hoi hSi hcl hrd => ?_)⟩
        · unfold memS
          rw [show getS ms rs S ops.toList.length = getS ms rs S' ops.toList.length from funext fun id => getS_congr _ fun j hj _ => hS j hj, nextS_congr _ fun j hj _ => hS j hj]
        · rw [memS_get, getS_all _ (fun j hj => hkeep id j hj) (fun _ _ _ => rfl), hw.mlast]
        · rw [memS_next, nextS_all _ hsame (fun _ _ _ => rfl), hw.mlast]
        · rw [memS_get, getS_past (i := 0) _ (Nat.zero_le _) (fun j _ h2 _ => hrep j h2)]
          show (ms 0).get id = _
          rw [hw.mfirst]; rfl
        · rw [memS_next, nextS_past (i := 0) _ (Nat.zero_le _) (fun j _ h2 _ => hrep j h2)]
          show _ ≤ (ms 0).next
          rw [hw.mfirst]; exact Nat.le_add_right _ _
        · refine traceT_step hw m.next (fun c k hk => ?_) (fun id B hB => hst.2.1 id B hB) (fun t k hk => hst.2.2 t k hk) S i o hoi hSi hcl hrd
          have h3 := idOf_mem hk
          obtain ⟨h4, h5⟩ := refsOf_range _ _ _ h3
          exact ⟨h3, h4, h5⟩
      split at h
      · -- a call at the end
        split at h
        · rename_i hlb
          left
          have hne : ops.toList ≠ [] := by
            intro hc
            rename_i hany _
            rw [hc] at hany
            simp at hany
          have hpos : 0 < ops.toList.length := List.length_pos_iff.2 hne
          obtain ⟨p', fr', m', h1, h2⟩ := execOpsL_chain hE (callQ_ok hE hS hih) (callIn_ok hE hS hih) _ _ _ _ hne h
          obtain ⟨frs, vals, q1, q2, q3, q4, q5⟩ := h2.index
          exact ⟨p', fr', m', h1, ord fr' m' frs vals (fun S => if S (ops.toList.length - 1) = true then m' else m) ⟨q1, q2, q3⟩ (fun S S' hS => by rw [hS (ops.toList.length - 1) (by omega)])
            (by rw [if_pos rfl]; exact ⟨fun _ => rfl, rfl⟩) (by
              rw [if_neg (fun h => by
                have h2 : (Array.replicate ops.toList.length false).getD (ops.toList.length - 1) true = true := h
                rw [hrep _ (by omega)] at h2; cases h2)]
              exact ⟨fun _ => rfl, Nat.le_refl _⟩)
            (fun _ S i o hoi hSi hcl hrd => .inl (last_step hlb q4 q5 S i o hoi hSi hcl))⟩
        · exact h.elim
      · split at h
        · -- a call that may panic
          rename_i c hpn
          split at h
          · rename_i oc hoc
            rw [nth_eq] at hoc
            split at h
            · rename_i hcg
              obtain ⟨p1, fr1, h1, frs, vals, q1, q2, q3⟩ := execPre_walk hE (callQ_ok hE hS hih) _ _ _ _ _ h
              split at h1
              · rename_i t ht
                obtain ⟨f, cl, hop, hcal, s, hs, ht⟩ := pnTree_spec ht
                rcases bindX_holds t p1 h1 (hS.2.2.1 f s _ m t hs ht) with ⟨v, m1, p', h2, h3⟩ | ⟨v, m1, h2, h3⟩
                · exact .inl (tpart p' h2)
                · right
                  obtain ⟨fr2, g1, g2, g3⟩ := topK_holds _ _ _ h2
                  refine ⟨_, g1, fun ds w0 R0 ρ w a hs b cs => ?_⟩
                  have hcl := (List.getElem?_eq_some_iff.1 hoc).1
                  obtain ⟨s1, s2, s3, s4, s5⟩ := waitsOf_spec (c := c) ops.toList 0 []
                  have hi := indep_of_lexB hlex'
                  have hpan : SemPan P m v m1 oc (evalIn (frs ops.toList.length)) := by
                    rw [q2]
                    exact semPan_call hop hcal h3
                  obtain ⟨hm, hfr, hd⟩ := hs
                  obtain ⟨hm0, he0⟩ := hm.drew
                  have hfr0 := hfr.mono he0
                  have key := any_pan (ds := ds) (D := fun j => !hasN (waitsOf c ops.toList 0 []) j) (w0 := w0) (R0 := R0) (v := v) (m' := m1) (frs := frs) (vals := vals) (fr := fr) (c := c)
                    ⟨q1, fun i o ho => by
                      have := q3 i o ho
                      rw [Nat.zero_add] at this
                      exact ⟨fun hD => (this.1 (by simpa using hD)).1, fun hD => this.2 (by simpa using hD)⟩⟩ hi
                    (fun i o ho hD => by
                      have := q3 i o ho
                      rw [Nat.zero_add] at this
                      exact (this.1 (by simpa using hD)).2) hoc hcg (by
                      have := s3 c oc hoc (Nat.zero_add c)
                      rw [Nat.zero_add] at this
                      simp [this]) hpan
                    (fun i o ho hD hic => by
                      have := s4 i o ho (by rw [Nat.zero_add]; simpa using hD)
                      rw [Nat.zero_add] at this
                      rcases this with h | h | ⟨e, e1, e2, e3⟩
                      · cases h
                      · exact absurd h hic
                      · exact ⟨e, e1, e2, by simp [e3]⟩)
                    (fun j oj hj hD e e1 e2 => by
                      cases h4 : hasN (waitsOf c ops.toList 0 []) e.on with
                      | false => simp
                      | true =>
                        have := s5 j oj hj ⟨e, e1, e2, h4, by rw [Nat.zero_add]; exact hi.back j oj hj e e1 e2⟩
                        rw [Nat.zero_add] at this
                        simp [this] at hD)
                    (Q := fun e a' w' => ∃ u ρ', e = .panic [{ v := u, recovered := false }] ∧ SRelD ds w0 R0 ρ' w' fr2 m1 a' ∧ MExt w0 R0 ρ w m ρ' w' m1 ∧ Rep (RO w0 R0 ρ' w' m1) ρ' m1.next w' v u) (ρ0 := ρ) (wa := w)
                    (fun ρ' w' a' u k1 k2 k3 k4 k5 k6 => ⟨u, ρ', rfl, ⟨k1, ⟨g2.trans k2, fun t => by
                      rcases g3 t with h | ⟨h, h'⟩
                      · rw [h]; trivial
                      · rw [h]; exact k4 t h'⟩, k3⟩, k5, k6⟩) ops.toList.length (Array.replicate ops.toList.length false) ρ w.drew a (by simp)
                    (by
                      have : ∀ n, n ≤ ops.toList.length → unlisted (Array.replicate ops.toList.length false) n = n := by
                        intro n
                        induction n with
                        | zero => intro _; rfl
                        | succ n ih2 =>
                          intro hn
                          simp only [unlisted, ih2 (by omega), hrep n (by omega)]
                          simp
                      exact this _ (Nat.le_refl _))
                    (fun j oj hj hl => by
                      rw [hrep j (List.getElem?_eq_some_iff.1 hj).1] at hl; cases hl)
                    (fun k hk hl => by rw [hrep k hk] at hl; cases hl) hm0 hfr0.1 hd (fun t => by
                      have hcur0 : ∀ (n : Nat), n ≤ ops.toList.length → cur ops.toList fr vals (fun i => (Array.replicate ops.toList.length false).getD i true) n t = fr.get t := by
                        intro n
                        induction n with
                        | zero => intro _; rfl
                        | succ n ih2 =>
                          intro hn
                          simp only [cur]
                          rw [if_neg (fun hc => by have := hc.1; rw [hrep n (by omega)] at this; cases this)]
                          exact ih2 (by omega)
                      rw [hcur0 _ (Nat.le_refl _)]; exact hfr0.2 t) he0
                  have hw : (Code.region id ops true).wp P (fun e a' w' => ∃ u ρ', e = .panic [{ v := u, recovered := false }] ∧ SRelD ds w0 R0 ρ' w' fr2 m1 a' ∧ MExt w0 R0 ρ w m ρ' w' m1 ∧ Rep (RO w0 R0 ρ' w' m1) ρ' m1.next w' v u) a w := wp_region_any hmix (by simpa using key)
                  obtain ⟨e, a', w', ⟨u, ρ', rfl, k1, k2, k3⟩, todo, harr⟩ := hw b k cs
                  exact ⟨ρ', w', a', todo, u, k1, k2, k3, harr⟩
              · exact h1.elim
            · exact h.elim
          · exact h.elim
        left
        split at h
        · split at h
          · rename_i hch
            obtain ⟨p', fr', m', h1, h2⟩ := execOpsF_chain hE (callIn_ok hE hS hih) _ _ _ _ h
            obtain ⟨frs, vals, ms, hw⟩ := h2.toWalk
            have eA : curF E ops.toList ms (fun _ => true) ops.toList.length = m' := by rw [curF_all (free_keep hw) _ (Nat.le_refl _) (fun _ _ _ => rfl), hw.mlast]
            have eN : curF E ops.toList ms (fun k => (Array.replicate ops.toList.length false).getD k true) ops.toList.length = m := by rw [curF_past (i := 0) _ (Nat.zero_le _) (fun k _ h2 _ => hrep k h2)]; exact hw.mfirst
            exact ⟨p', fr', m', h1, ord fr' m' frs vals (fun S => curF E ops.toList ms S ops.toList.length) ⟨hw.first, hw.last, hw.next⟩ (fun S S' hS => curF_congr _ fun k hk _ => hS k hk)
              (by rw [eA]; exact ⟨fun _ => rfl, rfl⟩) (by rw [eN]; exact ⟨fun _ => rfl, Nat.le_refl _⟩)
              (fun _ S i o hoi hSi hcl hrd => .inl (free_step hw hch S i o hoi hSi hcl hrd))⟩
          · exact h.elim
        · split at h
          · rename_i hwetb
            have hwetb := (Bool.and_eq_true _ _ ▸ hwetb).1
            obtain ⟨p', fr', m', h1, h2⟩ := execOps_chainW hE (callQ_ok hE hS hih) _ _ _ _ h
            obtain ⟨frs, vals, ms, hw⟩ := h2.toWalk
            obtain ⟨al, af, hwet⟩ := wetB_spec hwetb
            have hquiet : ∀ i o, ops.toList[i]? = some o → writer o.op = false → ms (i + 1) = ms i := fun i o ho hwr => wet_keep hw hwet i o ho hwr
            have eA : curM ops.toList ms (fun _ => true) ops.toList.length = m' := by rw [curM_all hquiet _ (Nat.le_refl _) (fun _ _ _ => rfl), hw.mlast]
            have eN : curM ops.toList ms (fun k => (Array.replicate ops.toList.length false).getD k true) ops.toList.length = m := by rw [curM_past (i := 0) _ (Nat.zero_le _) (fun k _ h2 _ => hrep k h2)]; exact hw.mfirst
            exact ⟨p', fr', m', h1, ord fr' m' frs vals (fun S => curM ops.toList ms S ops.toList.length) ⟨hw.first, hw.last, hw.next⟩ (fun S S' hS => curM_congr _ fun k hk _ => hS k hk)
              (by rw [eA]; exact ⟨fun _ => rfl, rfl⟩) (by rw [eN]; exact ⟨fun _ => rfl, Nat.le_refl _⟩)
              (fun hst S i o hoi hSi hcl hrd => .inl (wet_step hw hwet hst.1 S i o hoi hSi hcl hrd))⟩
          · exact tpart _ h
    · exact h.elim

theorem exec_ok (hE : EOK P E) (hS : SumOK P E) (hmix : P.follows .mixedOrders = true) : ∀ n : Nat, ExecOK P (exec (α := α) E n)
  | 0 => fun items p fr m κ L h => h.elim
  | n + 1 => by
    have ihn := exec_ok hE hS hmix n
    intro items p fr m κ L h
    change (stepIn E (exec E n) items p fr m κ).holds L at h
    -- on from where one step leads
    have onn : ∀ (items' : List Item) (p : Plan) (fr' : Fr) (m' : Mem), (exec E n items' p fr' m' κ).holds L → Reach P items fr m (.stop items' fr' m') → ∃ out, (κ out).holds L ∧ Reach P items fr m out := by
      intro items' p fr' m' h1 h2
      obtain ⟨out, h3, h4⟩ := ihn _ _ _ _ _ _ h1
      exact ⟨out, h3, h2.trans h4⟩
    unfold stepIn at h
    split at h
    · exact ⟨_, h, fun ds w0 R0 ρ w a hs b cs => ⟨ρ, w, a, [], hs, Ext.refl _ _ _ _, .one step_end⟩⟩
    · rename_i id k
      exact onn _ _ _ _ h (Reach.step fun b a cs w _ => step_inBlock)
    · rename_i bd k
      exact onn _ _ _ _ h (Reach.step fun b a cs w _ => step_inScope)
    · rename_i bd k
      split at h
      · exact onn _ _ _ _ h (Reach.step fun b a cs w _ => step_inLoop)
      · exact onn _ _ _ _ h (Reach.step fun b a cs w _ => step_inLoop)
      · exact ⟨_, h, Reach.refl _ _ _⟩
    · rename_i c k
      cases c with
      | skip => exact onn _ _ _ _ h (Reach.step fun b a cs w _ => step_skip)
      | label l => exact onn _ _ _ _ h (Reach.step fun b a cs w _ => step_label)
      | region id ops draw =>
        rcases region_reach hE hS hmix ihn h with ⟨p', fr', m', h1, h2⟩ | h
        · exact onn _ _ _ _ h1 h2
        · exact h
      | seq x y => exact onn _ _ _ _ h (Reach.step fun b a cs w _ => step_seq)
      | cond c x y =>
        dsimp only [codeStep] at h
        split at h
        · rename_i bb hc
          obtain ⟨p', h⟩ := dec_holds h
          have st : ∀ (a : Act) (w : World), (∀ x, ∃ R ρ n, Rep R ρ n w (evalIn fr x) (a.eval x)) → a.eval c = .bool bb := fun a w hx => by
            obtain ⟨R, ρ, n, h1⟩ := hx c
            rw [hc] at h1; exact h1
          cases bb with
          | true => exact onn _ _ _ _ h (Reach.step fun b a cs w hx => by have := step_cond (P := P) (b := b) (a := a) (k := k) (cs := cs) (w := w) (x := x) (y := y) (st a w hx); simpa using this)
          | false => exact onn _ _ _ _ h (Reach.step fun b a cs w hx => by have := step_cond (P := P) (b := b) (a := a) (k := k) (cs := cs) (w := w) (x := x) (y := y) (st a w hx); simpa using this)
        · exact h.elim
      | block id bd => exact onn _ _ _ _ h (Reach.step fun b a cs w _ => step_block)
      | loop bd =>
        dsimp only [codeStep] at h
        split at h
        · exact onn _ _ _ _ h (Reach.step fun b a cs w _ => step_loop)
        · exact onn _ _ _ _ h (Reach.step fun b a cs w _ => step_loop)
        · exact ⟨_, h, Reach.refl _ _ _⟩
      | rangeFunc f ps as1 bd => exact h.elim
      | exit id =>
        dsimp only [codeStep] at h
        split at h
        · rename_i k' hk
          exact onn _ _ _ _ h (Reach.step fun b a cs w _ => step_exit hk)
        · exact h.elim
      | scope bd => exact onn _ _ _ _ h (Reach.step fun b a cs w _ => step_scope)
      | goto l => exact h.elim
      | ret => exact ⟨_, h, fun ds w0 R0 ρ w a hs b cs => ⟨ρ, w, a, _, hs, Ext.refl _ _ _ _, .one step_ret⟩⟩
      | refuse why => exact h.elim
    · rename_i ops l k
      split at h
      · exact onn _ _ _ _ h (Reach.step fun b a cs w _ => step_region_end)
      · rename_i i rest
        split at h
        · rename_i hl
          have hl := of_decide_eq_true hl
          have hlen : (ops.toList.drop i).length = ops.size - i := by simp
          rcases execOpsP_chain hE hS (callIn_ok hE hS ihn) _ _ _ _ h with ⟨p', fr', m', h1, h2⟩ | ⟨v, fr', m', h1, h2⟩
          · refine onn _ _ _ _ h1 fun ds w0 R0 ρ w a hs b cs => ?_
            have := chain_wpOps (Q := fun e a' w' => e = .normal ∧ ∃ ρ', SRelD ds w0 R0 ρ' w' fr' m' a' ∧ MExt w0 R0 ρ w m ρ' w' m') h2 i rfl ρ w a hs (fun ρ' w' a' g1 g2 => ⟨rfl, ρ', g1, g2⟩)
            rw [hlen, ← hl] at this
            have hq : wpOps P ops (fun e a' w' => e = .normal ∧ ∃ ρ', SRelD ds w0 R0 ρ' w' fr' m' a' ∧ MExt w0 R0 ρ w m ρ' w' m') (i :: rest) a w := by simpa using this
            obtain ⟨e, a', w', ⟨rfl, ρ', g1, g2⟩, harr⟩ := wp_ops _ a w hq b k cs
            exact ⟨ρ', w', a', g1, g2, harr⟩
          · refine ⟨_, h1, fun ds w0 R0 ρ w a hs b cs => ?_⟩
            have := chainP_wpOps (Q := fun e a' w' => ∃ u ρ', e = .panic [{ v := u, recovered := false }] ∧ SRelD ds w0 R0 ρ' w' fr' m' a' ∧ MExt w0 R0 ρ w m ρ' w' m' ∧ Rep (RO w0 R0 ρ' w' m') ρ' m'.next w' v u) h2 i rfl ρ w a hs (fun ρ' w' a' u g1 g2 g3 => ⟨u, ρ', rfl, g1, g2, g3⟩)
            rw [hlen, ← hl] at this
            have hq : wpOps P ops (fun e a' w' => ∃ u ρ', e = .panic [{ v := u, recovered := false }] ∧ SRelD ds w0 R0 ρ' w' fr' m' a' ∧ MExt w0 R0 ρ w m ρ' w' m' ∧ Rep (RO w0 R0 ρ' w' m') ρ' m'.next w' v u) (i :: rest) a w := by simpa using this
            obtain ⟨e, a', w', ⟨u, ρ', rfl, g1, g2, g3⟩, todo, harr⟩ := wp_ops _ a w hq b k cs
            exact ⟨ρ', w', a', todo, u, g1, g2, g3, harr⟩
        · exact h.elim
    · exact h.elim

/-! ### Contracts -/

/-- What is asked of a program and of what is known of it. -/
structure Known (P : Program) (E : Env) : Prop where
  e : EOK P E
  s : SumOK P E
  mix : P.follows .mixedOrders = true

/-- A contract of a function that is handed data and hands back data. -/
theorem scall_of_exec (hK : Known P E) {n : Nat} {f : FuncId} {args : List SV} {p : Plan} {v : SV} (hd : dataL args = true) (hvd : v.data = true) (h : (execFn E n f args p).holds fun x => x.1 = v) : SCall P f args v := by
  intro m w0 R0 ρ w vs hm hvs
  unfold execFn at h
  split at h
  · rename_i fn hfn
    have hf := hK.e.fn f fn hfn
    split at h
    · rename_i body hb
      split at h
      · rename_i hn
        obtain ⟨fr, h1, h2, h3, h4⟩ := make_holds h
        obtain ⟨out, h5, h6⟩ := exec_ok hK.e hK.s hK.mix n _ _ _ _ _ _ h1
        cases out with
        | stop it fr' m' => exact h5.elim
        | pan v fr' m' => exact h5.elim
        | ret p' fr' mc =>
          dsimp only at h5
          obtain ⟨v', h7, h8⟩ := results_holds hK.e h5
          obtain rfl : v' = v := h7
          rw [callFunc_enter hf hb hn]
          obtain ⟨o1, o2⟩ := own_mem hm ρ
          have hfr := frame_rel h2 h3 h4 (RepL.data (R' := RO w (RO w0 R0 ρ w m) ρ w ⟨0, .e⟩) (ρ' := ρ) (n' := 0) o2 args vs hd hvs)
          refine Calls.mono (calls_of_reach hf hb h6 h8 o1 hfr) fun e w' ⟨u, he, ρ', g1, g2, g3⟩ => ⟨u, he, ?_⟩
          have hst := Hand.start hm g1
          obtain ⟨k1, k2⟩ := hst.finish hm g1
          exact ⟨ρ, k1, k2, Rep.data (fun b hb => hst.ro b (.inr hb)) v' u hvd g3⟩
      · exact h.elim
    · exact h.elim
  · exact h.elim

/-- A contract, as the model's own 'Calls' says it: whatever world, arguments that say these values. -/
theorem SCall.calls {f : FuncId} {fn : Func} {body : Code} {args : List SV} {v : SV} (h : SCall P f args v) (hv : v.data = true) (hf : P.funcs[f]? = some fn) (hb : fn.body = some body) (hn : (fn.name == "runtime.NumGoroutine") = false) (w : World) (vs : List Value) (hvs : RepL (fun b => b < w.heap.size) (fun _ => (0, 0, 0)) 0 w args vs) (hg : Gnd w) :
    Calls P f vs.toArray w fun e w' => ∃ u, e = .returned u ∧ Below w.heap.size w w' ∧ Rep (fun b => b < w'.heap.size) (fun _ => (0, 0, 0)) 0 w' v u := by
  have hm : MRel w (fun _ => True) (fun _ => (0, 0, 0)) w ⟨0, .e⟩ := ⟨⟨Below.refl _ _, hg⟩, fun id B h => (by cases h), fun id B h => (by cases h), fun id B h => (by cases h), fun id id' B B' h => (by cases h), fun id B h => (by cases h)⟩
  have hext : Ext (fun b => b < w.heap.size) (fun _ => (0, 0, 0)) 0 w (RO w (fun _ => True) (fun _ => (0, 0, 0)) w ⟨0, .e⟩) (fun _ => (0, 0, 0)) 0 w := ⟨Nat.le_refl _, fun _ _ => rfl, fun b hb => ⟨.inl ⟨trivial, hb⟩, rfl⟩⟩
  have h1 := h ⟨0, .e⟩ w (fun _ => True) (fun _ => (0, 0, 0)) w vs hm (RepL.mono hext _ _ hvs)
  rw [callFunc_enter hf hb hn] at h1
  refine Calls.mono h1 fun e w' ⟨u, he, ρ', g1, g2, g3⟩ => ⟨u, he, g1.below.toBelow, ?_⟩
  refine Rep.data (fun b hb => ?_) v u hv g3
  exact g1.ro_lt hb
end
end Go.Sx
set_option linter.unusedSimpArgs false
set_option linter.unusedVariables false
namespace Go.Sx
open Go.RowKit

theorem dfltChk_rep {R : Nat → Prop} {w : World} : ∀ (u : Ty) (vs rest : List Value), dfltChk u vs = some rest → ∃ v1, vs = v1 ++ rest ∧ RepD R w u u.dflt v1
  | .unit, vs, rest, h => by simp only [dfltChk, Option.some.injEq] at h; exact ⟨[], h, rfl⟩
  | .int k, vs, rest, h => by
    unfold dfltChk at h
    split at h
    · split at h
      · rename_i hk
        injection h with h; subst h hk
        exact ⟨[_], rfl, rfl⟩
      · cases h
    · cases h
  | .bool, vs, rest, h => by
    unfold dfltChk at h
    split at h
    · injection h with h; subst h
      exact ⟨[_], rfl, rfl⟩
    · cases h
  | .str, vs, rest, h => by
    unfold dfltChk at h
    split at h
    · injection h with h; subst h
      exact ⟨[_], rfl, rfl⟩
    · cases h
  | .list t, vs, rest, h => by
    unfold dfltChk at h
    split at h
    · injection h with h; subst h
      exact ⟨[_], rfl, none, 0, rfl, Nat.le_refl _, fun h0 => absurd h0 (Nat.lt_irrefl _)⟩
    · cases h
  | .pair a b, vs, rest, h => by
    unfold dfltChk at h
    split at h
    · rename_i vs1 h1
      obtain ⟨v1, e1, r1⟩ := dfltChk_rep a vs vs1 h1
      obtain ⟨v2, e2, r2⟩ := dfltChk_rep b vs1 rest h
      exact ⟨v1 ++ v2, by rw [e1, e2]; simp, v1, v2, rfl, r1, r2⟩
    · cases h

theorem rowOf_ok {P : Program} [ElOK P] {t : TypeId} {r : Row} (h : rowOf P t = some r) : RowOK P t r := by
  have h00 := h
  unfold rowOf at h
  split at h
  · rename_i d i hd hi
    split at h
    · rename_i z hz
      injection h with h
      have hel : ∀ hk : (r.ty = some (.int .u8) ∨ r.desc = .int .u8), r.size = 1 → El8 t := rowOf_u8 h00
      subst h
      refine ⟨hd, ⟨i, z, hi, rfl, rfl, hz, fun R ρ n w => ofLeafs_rep R ρ n w _, fun u hu R w => ?_⟩, rfl, rfl, hel⟩
      dsimp only at hu
      unfold tyIf at hu
      split at hu
      · rename_i u' hu'
        split at hu
        · rename_i hc
          injection hu with hu; subst hu
          obtain ⟨v1, e1, r1⟩ := dfltChk_rep (R := R) (w := w) u' _ _ hc
          rw [List.append_nil] at e1
          rw [e1]; exact r1
        · cases hu
      · cases hu
    · cases h
  · cases h

theorem known_of {P : Program} [ElOK P] {sum : FuncId → Option (List SV → Option (Tree SV))} (hmix : P.follows .mixedOrders = true) (hsum : SumOK P (Env.of P sum)) : Known P (Env.of P sum) :=
  ⟨⟨fun t r h => rowOf_ok h, fun f fn h => h, fun t z h => (by cases h)⟩, hsum, hmix⟩

/-- No summary at all. -/
theorem sum_none {P : Program} : SumOK P (Env.of P fun _ => none) := ⟨fun f s args t h => (by cases h), fun f s args m t h => (by cases h), fun f s args m t h => (by cases h), fun f s args B t h => (by cases h)⟩

/-- One function, its number, and what it hands back. -/
structure Fact where
  f : FuncId
  s : List SV → Option (Tree SV)

/-- The summaries of a list. -/
noncomputable def sumOf (l : List Fact) (f : FuncId) : Option (List SV → Option (Tree SV)) :=
  List.rec (motive := fun _ => Option (List SV → Option (Tree SV))) none (fun x _ ih => match Nat.beq x.f f with
    | true => some x.s
    | false => ih) l

/-- A fact is true of a program. -/
def Fact.ok (P : Program) (x : Fact) : Prop := ∀ args t, x.s args = some t → t.says (SCall P x.f args)

theorem sumOf_says {P : Program} : ∀ (l : List Fact), (∀ x ∈ l, x.ok P) → ∀ f s args t, sumOf l f = some s → s args = some t → t.says (SCall P f args)
  | [], _ => fun f s args t h => by cases h
  | x :: l, h => fun f s args t hs ht => by
    change (match Nat.beq x.f f with
      | true => some x.s
      | false => sumOf l f) = some s at hs
    split at hs
    · rename_i hf
      injection hs with hs
      subst hs
      have : x.f = f := Nat.eq_of_beq_eq_true hf
      subst this
      exact h x List.mem_cons_self args t ht
    · exact sumOf_says l (fun y hy => h y (List.mem_cons_of_mem _ hy)) f s args t hs ht
theorem sumOf_ok {P : Program} (l : List Fact) (h : ∀ x ∈ l, x.ok P) : SumOK P (Env.of P (sumOf l)) := ⟨sumOf_says l h, fun f s args m t h => (by cases h), fun f s args m t h => (by cases h), fun f s args B t h => (by cases h)⟩

/-- One function that turns rows of its caller. -/
structure WFact where
  f : FuncId
  s : List SV → Mem → Option (Tree (SV × Mem))

noncomputable def wrOf (l : List WFact) (f : FuncId) : Option (List SV → Mem → Option (Tree (SV × Mem))) :=
  List.rec (motive := fun _ => Option (List SV → Mem → Option (Tree (SV × Mem)))) none (fun x _ ih => match Nat.beq x.f f with
    | true => some x.s
    | false => ih) l
def WFact.ok (P : Program) (x : WFact) : Prop := ∀ args m t, x.s args m = some t → t.says (WCall P x.f args m)
theorem wrOf_says {P : Program} : ∀ (l : List WFact), (∀ x ∈ l, x.ok P) → ∀ f s args m t, wrOf l f = some s → s args m = some t → t.says (WCall P f args m)
  | [], _ => fun f s args m t h => by cases h
  | x :: l, h => fun f s args m t hs ht => by
    change (match Nat.beq x.f f with
      | true => some x.s
      | false => wrOf l f) = some s at hs
    split at hs
    · rename_i hf
      injection hs with hs
      subst hs
      have : x.f = f := Nat.eq_of_beq_eq_true hf
      subst this
      exact h x List.mem_cons_self args m t ht
    · exact wrOf_says l (fun y hy => h y (List.mem_cons_of_mem _ hy)) f s args m t hs ht
theorem known_ofW {P : Program} [ElOK P] (hmix : P.follows .mixedOrders = true) {l : List Fact} {k : List WFact} (hl : ∀ x ∈ l, x.ok P) (hk : ∀ x ∈ k, x.ok P) : Known P (Env.ofW P (sumOf l) (wrOf k)) :=
  ⟨⟨fun t r h => rowOf_ok h, fun f fn h => h, fun t z h => (by cases h)⟩, ⟨sumOf_says l hl, wrOf_says k hk, fun f s args m t h => (by cases h), fun f s args B t h => (by cases h)⟩, hmix⟩

/-- The functions of a list. -/
def rdOf (l : List Nat) (f : FuncId) : Bool := l.any fun x => Nat.beq x f
theorem known_ofR {P : Program} [ElOK P] (hmix : P.follows .mixedOrders = true) {l : List Fact} {k : List WFact} (hl : ∀ x ∈ l, x.ok P) (hk : ∀ x ∈ k, x.ok P) (rd : FuncId → Bool) : Known P (Env.ofR P (sumOf l) (wrOf k) rd) :=
  ⟨⟨fun t r h => rowOf_ok h, fun f fn h => h, fun t z h => (by cases h)⟩, ⟨sumOf_says l hl, wrOf_says k hk, fun f s args m t h => (by cases h), fun f s args B t h => (by cases h)⟩, hmix⟩

/-- One function that may panic. -/
structure PFact where
  f : FuncId
  s : List SV → Mem → Option (Tree Ex)
noncomputable def pnOf (l : List PFact) (f : FuncId) : Option (List SV → Mem → Option (Tree Ex)) :=
  List.rec (motive := fun _ => Option (List SV → Mem → Option (Tree Ex))) none (fun x _ ih => match Nat.beq x.f f with
    | true => some x.s
    | false => ih) l
def PFact.ok (P : Program) (x : PFact) : Prop := ∀ args m t, x.s args m = some t → t.says (XCall P x.f args m)
theorem pnOf_says {P : Program} : ∀ (l : List PFact), (∀ x ∈ l, x.ok P) → ∀ f s args m t, pnOf l f = some s → s args m = some t → t.says (XCall P f args m)
  | [], _ => fun f s args m t h => by cases h
  | x :: l, h => fun f s args m t hs ht => by
    change (match Nat.beq x.f f with
      | true => some x.s
      | false => pnOf l f) = some s at hs
    split at hs
    · rename_i hf
      injection hs with hs
      subst hs
      have : x.f = f := Nat.eq_of_beq_eq_true hf
      subst this
      exact h x List.mem_cons_self args m t ht
    · exact pnOf_says l (fun y hy => h y (List.mem_cons_of_mem _ hy)) f s args m t hs ht
theorem known_ofP {P : Program} [ElOK P] (hmix : P.follows .mixedOrders = true) {l : List Fact} {k : List WFact} {j : List PFact} (hl : ∀ x ∈ l, x.ok P) (hk : ∀ x ∈ k, x.ok P) (hj : ∀ x ∈ j, x.ok P) (rd : FuncId → Bool) (cut : Nat → Bool) : Known P (Env.ofP P (sumOf l) (wrOf k) (pnOf j) rd cut) :=
  ⟨⟨fun t r h => rowOf_ok h, fun f fn h => h, fun t z h => (by cases h)⟩, ⟨sumOf_says l hl, wrOf_says k hk, pnOf_says j hj, fun f s args B t h => (by cases h)⟩, hmix⟩

/-- One function that turns one box of its caller's, and may panic. -/
structure BFact where
  f : FuncId
  s : List SV → Box → Option (Tree (Bool × SV × Box))
noncomputable def bxOf (l : List BFact) (f : FuncId) : Option (List SV → Box → Option (Tree (Bool × SV × Box))) :=
  List.rec (motive := fun _ => Option (List SV → Box → Option (Tree (Bool × SV × Box)))) none (fun x _ ih => match Nat.beq x.f f with
    | true => some x.s
    | false => ih) l
def BFact.ok (P : Program) (x : BFact) : Prop := ∀ args B t, x.s args B = some t → t.says (BCall P x.f args B)
theorem bxOf_says {P : Program} : ∀ (l : List BFact), (∀ x ∈ l, x.ok P) → ∀ f s args B t, bxOf l f = some s → s args B = some t → t.says (BCall P f args B)
  | [], _ => fun f s args m t h => by cases h
  | x :: l, h => fun f s args m t hs ht => by
    change (match Nat.beq x.f f with
      | true => some x.s
      | false => bxOf l f) = some s at hs
    split at hs
    · rename_i hf
      injection hs with hs
      subst hs
      have : x.f = f := Nat.eq_of_beq_eq_true hf
      subst this
      exact h x List.mem_cons_self args m t ht
    · exact bxOf_says l (fun y hy => h y (List.mem_cons_of_mem _ hy)) f s args m t hs ht
/-- The same in any memory. -/
noncomputable def boxTree (m : Mem) (id : Nat) : Tree (Bool × SV × Box) → Tree Ex
  | .leaf x => m.set id (some x.2.2) fun m' => .leaf (match x.1 with
    | true => .pan x.2.1 m'
    | false => .ok x.2.1 m')
  | .node b t f => .node b (boxTree m id t) (boxTree m id f)
  | .req b t => .req b (boxTree m id t)
  | .fail n => .fail n
noncomputable def boxS (s : List SV → Box → Option (Tree (Bool × SV × Box))) (args : List SV) (m : Mem) : Option (Tree Ex) :=
  match args with
  | x :: rest => match x with
    | .ptr id off => match Nat.beq off 0 with
      | true => match m.get id with
        | some B => match s rest B with
          | some t => some (boxTree m id t)
          | none => none
        | none => none
      | false => none
    | _ => none
  | _ => none
noncomputable def BFact.toP (x : BFact) : PFact := ⟨x.f, boxS x.s⟩
theorem says_of_holdsB {β : Type} {Φ : β → Prop} : ∀ (t : Tree β), t.holds Φ → t.says Φ
  | .leaf _, h => h
  | .node _ t f, h => ⟨fun hb => says_of_holdsB t (h.1 hb), fun hb => says_of_holdsB f (h.2 hb)⟩
  | .req _ t, h => fun _ => says_of_holdsB t h.2
  | .fail _, h => h.elim
theorem setT_saysB {β γ : Type} {Φ : γ → Prop} : ∀ (d : Nat) (t : Tb β) (i : Nat) (v : Option β) (k : Tb β → Tree γ), (∀ t', TbSet t i v t' → (k t').says Φ) → (setT d t i v k).says Φ
  | 0, _, _, _, _, _ => trivial
  | d + 1, .e, 0, v, k, h => h _ fun j => by cases j with
      | zero => simp [Tb.get_n_zero]
      | succ j => rw [Tb.get_n_succ]; by_cases hj : j % 2 = 0 <;> simp [Tb.pick_even, Tb.pick_odd, hj, Tb.get_e]
  | d + 1, .n l u r, 0, v, k, h => h _ fun j => by cases j with
      | zero => simp [Tb.get_n_zero]
      | succ j => simp [Tb.get_n_succ]
  | d + 1, .e, i + 1, v, k, h => by
    change Tree.says Φ (Tb.pick i (fun i => setT d .e i v fun l => k (.n l none .e)) (fun i => setT d .e i v fun r => k (.n .e none r)))
    by_cases hi : i % 2 = 0
    · rw [Tb.pick_even hi]
      refine setT_saysB d _ _ _ _ fun t' h1 => h _ fun j => ?_
      cases j with
      | zero => simp [Tb.get_n_zero, Tb.get_e]
      | succ j =>
        rw [Tb.get_n_succ]
        by_cases hj : j % 2 = 0
        · rw [Tb.pick_even hj, h1 (j / 2), Tb.get_e, Tb.get_e]
          have : j / 2 = i / 2 ↔ j + 1 = i + 1 := by omega
          simp [this]
        · rw [Tb.pick_odd hj, Tb.get_e, Tb.get_e, if_neg (by omega)]
    · rw [Tb.pick_odd hi]
      refine setT_saysB d _ _ _ _ fun t' h1 => h _ fun j => ?_
      cases j with
      | zero => simp [Tb.get_n_zero, Tb.get_e]
      | succ j =>
        rw [Tb.get_n_succ]
        by_cases hj : j % 2 = 0
        · rw [Tb.pick_even hj, Tb.get_e, Tb.get_e, if_neg (by omega)]
        · rw [Tb.pick_odd hj, h1 (j / 2), Tb.get_e, Tb.get_e]
          have : j / 2 = i / 2 ↔ j + 1 = i + 1 := by omega
          simp [this]
  | d + 1, .n l u r, i + 1, v, k, h => by
    change Tree.says Φ (Tb.pick i (fun i => setT d l i v fun l => k (.n l u r)) (fun i => setT d r i v fun r => k (.n l u r)))
    by_cases hi : i % 2 = 0
    · rw [Tb.pick_even hi]
      refine setT_saysB d _ _ _ _ fun t' h1 => h _ fun j => ?_
      cases j with
      | zero => simp [Tb.get_n_zero]
      | succ j =>
        rw [Tb.get_n_succ, Tb.get_n_succ]
        by_cases hj : j % 2 = 0
        · rw [Tb.pick_even hj, Tb.pick_even hj, h1 (j / 2)]
          have : j / 2 = i / 2 ↔ j + 1 = i + 1 := by omega
          simp [this]
        · rw [Tb.pick_odd hj, Tb.pick_odd hj, if_neg (by omega)]
    · rw [Tb.pick_odd hi]
      refine setT_saysB d _ _ _ _ fun t' h1 => h _ fun j => ?_
      cases j with
      | zero => simp [Tb.get_n_zero]
      | succ j =>
        rw [Tb.get_n_succ, Tb.get_n_succ]
        by_cases hj : j % 2 = 0
        · rw [Tb.pick_even hj, Tb.pick_even hj, if_neg (by omega)]
        · rw [Tb.pick_odd hj, Tb.pick_odd hj, h1 (j / 2)]
          have : j / 2 = i / 2 ↔ j + 1 = i + 1 := by omega
          simp [this]
theorem set_saysB {γ : Type} {Φ : γ → Prop} {m : Mem} {id : Nat} {b : Option Box} {k : Mem → Tree γ} (h : ∀ m', MSet m id b m' → (k m').says Φ) : (m.set id b k).says Φ :=
  setT_saysB 40 _ _ _ _ fun t' ht => h ⟨m.next, t'⟩ ⟨ht, rfl⟩
theorem boxTree_says {P : Program} {f : FuncId} {args : List SV} {B : Box} {m : Mem} {id : Nat} (hB : m.get id = some B) : ∀ (t : Tree (Bool × SV × Box)), t.says (BCall P f args B) → (boxTree m id t).says (XCall P f (.ptr id 0 :: args) m)
  | .leaf x, h => set_saysB fun m' hm => h m m' id hB hm
  | .node _ t f', h => ⟨fun hb => boxTree_says hB t (h.1 hb), fun hb => boxTree_says hB f' (h.2 hb)⟩
  | .req _ t, h => fun hb => boxTree_says hB t (h hb)
  | .fail _, _ => trivial
theorem BFact.toP_ok {P : Program} {x : BFact} (h : x.ok P) : x.toP.ok P := by
  intro args m t ht
  change boxS x.s args m = some t at ht
  unfold boxS at ht
  split at ht
  · split at ht
    · split at ht
      · rename_i off h0
        split at ht
        · rename_i B hB
          split at ht
          · rename_i t' ht'
            injection ht with ht
            subst ht
            rw [Nat.eq_of_beq_eq_true h0]
            exact boxTree_says hB t' (h _ B t' ht')
          · cases ht
        · cases ht
      · cases ht
    · cases ht
  · cases ht
theorem known_ofB {P : Program} [ElOK P] (hmix : P.follows .mixedOrders = true) {l : List Fact} {k : List WFact} {j : List PFact} {i : List BFact} (hl : ∀ x ∈ l, x.ok P) (hk : ∀ x ∈ k, x.ok P) (hj : ∀ x ∈ j, x.ok P) (hi : ∀ x ∈ i, x.ok P) (typed : TypeId → Bool) (lst rd : FuncId → Bool) (cut : Nat → Bool) : Known P (Env.ofB P (sumOf l) (wrOf k) (pnOf j) (bxOf i) typed lst rd cut) :=
  ⟨⟨fun t r h => rowOf_ok h, fun f fn h => h, fun t z h => by
    change (P.info? t).bind (fun i => i.zero) = some z at h
    cases hi : P.info? t with
    | none => rw [hi] at h; cases h
    | some i => rw [hi] at h; exact ⟨i, rfl, h⟩⟩, ⟨sumOf_says l hl, wrOf_says k hk, pnOf_says j hj, bxOf_says i hi⟩, hmix⟩

/-- A contract out of the evaluator's tree, given the facts on what it calls. -/
theorem scall_of {P : Program} [ElOK P] (hmix : P.follows .mixedOrders = true) (l : List Fact) (hl : ∀ x ∈ l, x.ok P) (n : Nat) (p : Plan) {f : FuncId} {args : List SV} {v : SV} {t : Tree (SV × Mem)} (ht : execFn (Env.of P (sumOf l)) n f args p = t) (h : t.holds fun x => x.1 = v) (hd : dataL args = true) (hv : v.data = true) : SCall P f args v :=
  scall_of_exec (known_of hmix (sumOf_ok l hl)) hd hv (by rw [ht]; exact h)
end Go.Sx
set_option linter.unusedSimpArgs false
set_option linter.unusedVariables false
namespace Go.Sx
open Go.RowKit Go.WideShapes

def lay.rep (u : Ty) : Nat → Ty
  | 0 => .unit
  | 1 => u
  | n + 2 => .pair u (lay.rep u (n + 1))

def lay.goF (P : Program) (ty : TypeId → Option Ty) : Nat → List Field → Option Ty
  | _, [] => some .unit
  | off, [f] => match ty f.type with
    | some u => if f.offset = off ∧ P.cellsOf f.type = u.sz then some u else none
    | none => none
  | off, f :: fs => match ty f.type with
    | some a => if f.offset = off ∧ P.cellsOf f.type = a.sz then (match lay.goF P ty (off + a.sz) fs with
      | some b => some (.pair a b)
      | none => none) else none
    | none => none

/-- The type of data, its layout looked at. -/
def lay (P : Program) : Nat → TypeId → Option Ty
  | 0, _ => none
  | d + 1, t => match P.underlying t with
    | some .bool => some .bool
    | some (.int k) => some (.int k)
    | some .string => some .str
    | some (.slice e) => match lay P d e with
      | some u => if P.cellsOf e = u.sz ∧ 0 < u.sz then some (.list u) else none
      | none => none
    | some (.struct fs) => match lay.goF P (lay P d) 0 fs.toList with
      | some u => if P.cellsOf t = u.sz then some u else none
      | none => none
    | some (.array n e) => match lay P d e with
      | some u => if P.cellsOf e = u.sz ∧ P.cellsOf t = (lay.rep u n).sz then some (lay.rep u n) else none
      | none => none
    | _ => none

/-- Numbers fit their kinds, lengths fit. -/
def Ty.fits : (t : Ty) → t.T → Prop
  | .unit, _ => True
  | .int k, n => (Lit.int k n).wf = true
  | .bool, _ => True
  | .str, s => List.length s ≤ maxLen
  | .list t, l => List.length l ≤ maxLen ∧ ∀ x ∈ (show List t.T from l), t.fits x
  | .pair a b, x => a.fits x.1 ∧ b.fits x.2

theorem exists_list {α : Type} {Q : Nat → α → Prop} : ∀ (n : Nat), (∀ i, i < n → ∃ y, Q i y) → ∃ l : List α, l.length = n ∧ ∀ i (h : i < l.length), Q i l[i]
  | 0, _ => ⟨[], rfl, fun i h => absurd h (Nat.not_lt_zero _)⟩
  | n + 1, h => by
    obtain ⟨l, hl, hq⟩ := exists_list n fun i hi => h i (Nat.lt_succ_of_lt hi)
    obtain ⟨y, hy⟩ := h n (Nat.lt_succ_self n)
    refine ⟨l ++ [y], by simp [hl], fun i hi => ?_⟩
    by_cases h1 : i < l.length
    · rw [List.getElem_append_left h1]; exact hq i h1
    · have : i = n := by simp at hi; omega
      subst this
      rw [List.getElem_append_right (by omega)]
      simpa [hl] using hy

theorem add_none {a : Addr} (h : a.spot = none) (k : Nat) : a.add k = ⟨a.block, a.off + k, none⟩ := by
  obtain ⟨b, o, s⟩ := a
  subst h
  by_cases hk : k = 0 <;> simp [Addr.add, hk]
theorem add_spot {a : Addr} (h : a.spot = none) {k : Nat} : (a.add k).spot = none := by rw [add_none h]

section
variable {H : Type} {enc : TypeId × Value → H} {P : Program} {W : World}

/-- These cells read as a datum that fits. -/
def IsD (W : World) (u : Ty) (cs : List Value) : Prop := ∃ y : u.T, u.fits y ∧ RepD (fun b => b < W.heap.size) W u y cs

theorem rep_lay {u : Ty} : ∀ (n : Nat) (cs : List Value), cs.length = (lay.rep u n).sz → (∀ i, i < n → IsD W u ((cs.drop (i * u.sz)).take u.sz)) → IsD W (lay.rep u n) cs
  | 0, cs, h, _ => ⟨(), trivial, List.length_eq_zero_iff.mp h⟩
  | 1, cs, h, hi => by
    have := hi 0 (by omega)
    have hc : cs.length = u.sz := h
    have h2 : (cs.drop (0 * u.sz)).take u.sz = cs := by simp [← hc]
    rw [h2] at this
    exact this
  | n + 2, cs, h, hi => by
    obtain ⟨y1, f1, r1⟩ := hi 0 (by omega)
    have hc : cs.length = u.sz + (lay.rep u (n + 1)).sz := h
    obtain ⟨y2, f2, r2⟩ := rep_lay (u := u) (n + 1) (cs.drop u.sz) (by simp [hc]) fun i hin => by
      have := hi (i + 1) (by omega)
      rw [List.drop_drop]
      rwa [show u.sz + i * u.sz = (i + 1) * u.sz by rw [Nat.add_mul]; omega]
    exact ⟨(y1, y2), ⟨f1, f2⟩, _, _, (List.take_append_drop u.sz cs).symm, by simpa using r1, r2⟩

theorem lay_rep : ∀ (d : Nat) (t : TypeId) (u : Ty), lay P d t = some u → ∀ (n : Nat) (cs : List Value) (x), DataW.trod enc P W 0 (fun _ => true) true n t cs = some x → IsD W u cs
  | 0, _, _, h => by simp [lay] at h
  | d + 1, t, u, h => fun n cs x hx => by
    have ih := lay_rep d
    have hF : ∀ (fs : List Field) (off : Nat) (u : Ty), lay.goF P (lay P d) off fs = some u → off + u.sz = cs.length →
        (∀ f ∈ fs, ∃ m y, DataW.trod enc P W 0 (fun _ => true) true m f.type ((cs.drop f.offset).take (P.cellsOf f.type)) = some y) → IsD W u (cs.drop off) := by
      intro fs
      induction fs with
      | nil =>
        intro off u h hl _
        simp only [lay.goF, Option.some.injEq] at h
        subst h
        exact ⟨(), trivial, List.length_eq_zero_iff.mp (by simp [Ty.sz] at hl; simp; omega)⟩
      | cons f fs ihf =>
        intro off u h hl hm
        obtain ⟨m, y, hy⟩ := hm f List.mem_cons_self
        cases fs with
        | nil =>
          unfold lay.goF at h
          split at h
          · rename_i u' hu'
            split at h
            · rename_i hc
              injection h with h; subst h
              have := ih _ _ hu' _ _ _ hy
              rw [hc.1, hc.2] at this
              rwa [List.take_of_length_le (by simp; omega)] at this
            · cases h
          · cases h
        | cons g gs =>
          unfold lay.goF at h
          split at h
          · rename_i a ha
            split at h
            · rename_i hc
              split at h
              · rename_i b hb
                injection h with h; subst h
                have h1 := ih _ _ ha _ _ _ hy
                rw [hc.1, hc.2] at h1
                obtain ⟨y1, f1, r1⟩ := h1
                obtain ⟨y2, f2, r2⟩ := ihf (off + a.sz) b hb (by simp only [Ty.sz] at hl; omega) fun f' hf' => hm f' (List.mem_cons_of_mem _ hf')
                refine ⟨(y1, y2), ⟨f1, f2⟩, _, _, ?_, r1, r2⟩
                rw [← List.drop_drop, List.take_append_drop]
              · cases h
            · cases h
          · cases h
    unfold lay at h
    split at h
    · rename_i ht
      injection h with h; subst h
      obtain ⟨b, rfl, _⟩ := DataW.trod_bool ht hx
      exact ⟨b, trivial, rfl⟩
    · rename_i k ht
      injection h with h; subst h
      obtain ⟨i, rfl, _, hw⟩ := DataW.trod_int ht hx
      exact ⟨i, hw, rfl⟩
    · rename_i ht
      injection h with h; subst h
      obtain ⟨s, rfl, _, hw⟩ := DataW.trod_string ht hx
      exact ⟨s.data.toList, by simpa [Ty.fits] using hw, rfl⟩
    · rename_i e ht
      split at h
      · rename_i u' hu'
        split at h
        · rename_i hc
          injection h with h; subst h
          rcases DataW.trod_slice ht hx with ⟨rfl, _⟩ | ⟨a, len, cap, elems, rest, n', rfl, rfl, rfl, _, hl, hm, hel, hi, _, _⟩
          · exact ⟨([] : List u'.T), ⟨Nat.zero_le _, fun x hx => (by cases hx)⟩, none, 0, rfl, Nat.le_refl _, fun h0 => absurd h0 (Nat.lt_irrefl _)⟩
          · have key : ∀ i, i < len → ∃ y : u'.T, u'.fits y ∧ a.spot = none ∧ a.block < W.heap.size ∧ ∃ cs : List Value, cs.length = u'.sz ∧ (∀ j, j < u'.sz → W.cell? ⟨a.block, a.off + (i * u'.sz + j), none⟩ = cs[j]?) ∧ RepD (fun b => b < W.heap.size) W u' y cs := by
              intro i hlt
              have h1 := hi i hlt
              rw [List.getElem?_eq_getElem (by omega)] at h1
              obtain ⟨cs, hcs, htr⟩ := Option.bind_eq_some_iff.mp h1
              unfold World.cells? at hcs
              simp only [Nat.zero_le, if_true] at hcs
              have hlen := mapM_some_length hcs
              simp only [List.length_range] at hlen
              have hget : ∀ j, j < u'.sz → W.cell? ((a.add (i * P.cellsOf e)).add j) = cs[j]? := fun j hj => mapM_some_get hcs j j (by rw [List.getElem?_range (by omega)])
              obtain ⟨y, f, r⟩ := ih _ _ hu' _ _ _ htr
              have hs' : a.spot = none := by
                have h1 := hi 0 (by omega)
                rw [List.getElem?_eq_getElem (by omega)] at h1
                obtain ⟨cs, hcs, _⟩ := Option.bind_eq_some_iff.mp h1
                unfold World.cells? at hcs
                simp only [Nat.zero_le, if_true] at hcs
                have hlen := mapM_some_length hcs
                simp only [List.length_range] at hlen
                have h2 := mapM_some_get hcs 0 0 (by rw [List.getElem?_range (by omega)])
                rw [List.getElem?_eq_getElem (by omega)] at h2
                have := World.cell?_spot h2
                simpa [Addr.add] using this
              have h00 := hget 0 hc.2
              rw [List.getElem?_eq_getElem (by omega)] at h00
              refine ⟨y, f, hs', ?_, cs, by omega, fun j hj => ?_, r⟩
              · refine Nat.lt_of_not_le fun hge => ?_
                unfold World.cell? at h00
                rw [show ((a.add (i * P.cellsOf e)).add 0).block = a.block by rw [add_none (add_spot hs'), add_none hs'], Array.getElem?_eq_none hge] at h00
                simp at h00
              · rw [← hget j hj, hc.1, add_none (add_spot hs'), add_none hs']
                simp only [Nat.add_assoc]
            obtain ⟨l, hll, hq⟩ := exists_list len key
            subst hll
            refine ⟨l, ⟨Nat.le_trans hl hm, fun x hx => ?_⟩, some a, cap, rfl, hl, fun h0 => ?_⟩
            · obtain ⟨i, hi', rfl⟩ := List.getElem_of_mem hx
              exact (hq i hi').1
            · obtain ⟨_, hs, hb, _⟩ := hq 0 h0
              refine ⟨a.block, a.off, by rw [← hs], hb, fun i hi' => ?_⟩
              obtain ⟨_, _, _, cs, c1, c2, c3⟩ := hq i hi'
              exact ⟨cs, c1, c2, c3⟩
        · cases h
      · cases h
    · rename_i fs ht
      split at h
      · rename_i u' hu'
        split at h
        · rename_i hc
          injection h with h; subst h
          obtain ⟨xs, n', rfl, _, hcs, hxs, hf⟩ := DataW.trod_struct ht hx
          have := hF fs.toList 0 _ hu' (by omega) fun f hfm => by
            obtain ⟨i, hi', rfl⟩ := List.getElem_of_mem hfm
            have := hf i _ (by rw [← Array.getElem?_toList]; exact List.getElem?_eq_getElem hi')
            rw [List.getElem?_eq_getElem (by simp at hi'; omega)] at this
            exact ⟨_, _, this⟩
          simpa using this
        · cases h
      · cases h
    · rename_i k e ht
      split at h
      · rename_i u' hu'
        split at h
        · rename_i hc
          injection h with h; subst h
          cases n with
          | zero => simp [DataW.trod] at hx
          | succ n =>
            unfold DataW.trod at hx
            simp only [ht] at hx
            split at hx
            case isFalse => cases hx
            rename_i hl
            obtain ⟨xs, hp, _⟩ := Option.map_eq_some_iff.mp hx
            rw [hc.1] at hp
            refine rep_lay k cs (by omega) fun i hi' => ?_
            have hlx := mapM_some_length hp
            have := mapM_some_get hp i i (by rw [List.getElem?_range hi'])
            rw [List.getElem?_eq_getElem (by simp at hlx; omega)] at this
            exact ih _ _ hu' _ _ _ this
        · cases h
      · cases h
    · cases h

/-- A struct comes as a list of cells; all else is one cell. -/
def argOf (st : Bool) (u : Ty) (y : u.T) : SV := match st with
  | true => .agg (flat u y)
  | false => match flat u y with
    | [c] => c
    | _ => .top

theorem argOf_agg {t : TypeId} {u : Ty} {d : Nat} {v : Value} {x : DataW H} {ps : List MemPlace} (hu : lay P d t = some u) {fs : Array Field} (ht : P.underlying t = some (.struct fs)) {r : _root_.Go.Reach} {b0 : Nat} (hval : Value.okWide P W r b0 t v)
    (hd : DataW.Trod enc P W 0 (fun _ => true) true t v x ps) : ∃ y : u.T, u.fits y ∧ Rep (fun b => b < W.heap.size) (fun _ => (0, 0, 0)) 0 W (.agg (flat u y)) v := by
  obtain ⟨cs, rfl, _⟩ := okWide_struct ht hval
  obtain ⟨n, hn⟩ := hd
  obtain ⟨y, f, r⟩ := lay_rep d t u hu n _ _ hn
  exact ⟨y, f, cs.toList, rfl, (RepD.flat u y _ r).2⟩

theorem argOf_one {t : TypeId} {u : Ty} {d : Nat} {v : Value} {x : DataW H} {ps : List MemPlace} (hu : lay P d t = some u) (hone : v.cells = #[v])
    (hd : DataW.Trod enc P W 0 (fun _ => true) true t v x ps) : ∃ y : u.T, u.fits y ∧ RepL (fun b => b < W.heap.size) (fun _ => (0, 0, 0)) 0 W (flat u y) [v] := by
  obtain ⟨n, hn⟩ := hd
  rw [hone] at hn
  obtain ⟨y, f, r⟩ := lay_rep d t u hu n _ _ hn
  exact ⟨y, f, (RepD.flat u y _ r).2⟩

theorem argOf_int {t : TypeId} {k : IntKind} {d : Nat} {v : Value} {x : DataW H} {ps : List MemPlace} (hu : lay P (d + 1) t = some (.int k)) (ht : P.underlying t = some (.int k)) {r : _root_.Go.Reach} {b0 : Nat} (hval : Value.okWide P W r b0 t v)
    (hd : DataW.Trod enc P W 0 (fun _ => true) true t v x ps) : ∃ y : Int, (Lit.int k y).wf = true ∧ Rep (fun b => b < W.heap.size) (fun _ => (0, 0, 0)) 0 W (.int k y) v := by
  obtain ⟨i, rfl⟩ := okWide_int ht hval
  obtain ⟨y, f, u, us, e, r, _⟩ := argOf_one hu rfl hd
  injection e with e1 e2; subst e1
  exact ⟨y, f, r⟩

theorem argOf_bool {t : TypeId} {d : Nat} {v : Value} {x : DataW H} {ps : List MemPlace} (hu : lay P (d + 1) t = some .bool) (ht : P.underlying t = some .bool) {r : _root_.Go.Reach} {b0 : Nat} (hval : Value.okWide P W r b0 t v)
    (hd : DataW.Trod enc P W 0 (fun _ => true) true t v x ps) : ∃ y : Bool, Rep (fun b => b < W.heap.size) (fun _ => (0, 0, 0)) 0 W (.bool y) v := by
  obtain ⟨i, rfl⟩ := okWide_bool ht hval
  obtain ⟨y, f, u, us, e, r, _⟩ := argOf_one hu rfl hd
  injection e with e1 e2; subst e1
  exact ⟨y, r⟩

theorem argOf_str {t : TypeId} {d : Nat} {v : Value} {x : DataW H} {ps : List MemPlace} (hu : lay P (d + 1) t = some .str) (ht : P.underlying t = some .string) {r : _root_.Go.Reach} {b0 : Nat} (hval : Value.okWide P W r b0 t v)
    (hd : DataW.Trod enc P W 0 (fun _ => true) true t v x ps) : ∃ y : List UInt8, y.length ≤ maxLen ∧ Rep (fun b => b < W.heap.size) (fun _ => (0, 0, 0)) 0 W (.str y) v := by
  obtain ⟨i, rfl⟩ := okWide_string ht hval
  obtain ⟨y, f, u, us, e, r, _⟩ := argOf_one hu rfl hd
  injection e with e1 e2; subst e1
  exact ⟨y, f, r⟩

theorem argOf_list {t e : TypeId} {u : Ty} {d : Nat} {v : Value} {x : DataW H} {ps : List MemPlace} (hu : lay P (d + 1) t = some (.list u)) (ht : P.underlying t = some (.slice e)) {r : _root_.Go.Reach} {b0 : Nat} (hval : Value.okWide P W r b0 t v)
    (hd : DataW.Trod enc P W 0 (fun _ => true) true t v x ps) : ∃ y : List u.T, (y.length ≤ maxLen ∧ ∀ x ∈ y, u.fits x) ∧ Rep (fun b => b < W.heap.size) (fun _ => (0, 0, 0)) 0 W (.list u y) v := by
  obtain ⟨a, len, cap, rfl⟩ := okWide_slice ht hval
  obtain ⟨y, f, w, us, e, r, _⟩ := argOf_one hu rfl hd
  injection e with e1 e2; subst e1
  exact ⟨y, f, r⟩
end
end Go.Sx
set_option linter.unusedSimpArgs false
set_option linter.unusedVariables false
namespace Go.Sx
open Go.RowKit

/-- The values alone. -/
def Tree.vals : Tree (SV × Mem) → Tree SV
  | .leaf x => .leaf x.1
  | .node b t f => .node b t.vals f.vals
  | .req b t => .req b t.vals
  | .fail n => .fail n

theorem Tree.vals_holds {L : SV → Prop} : ∀ t : Tree (SV × Mem), t.vals.holds L → t.holds fun x => L x.1
  | .leaf _, h => h
  | .node _ t f, h => ⟨fun hb => t.vals_holds (h.1 hb), fun hb => f.vals_holds (h.2 hb)⟩
  | .req _ t, h => ⟨h.1, t.vals_holds h.2⟩
  | .fail _, h => h

/-- All facts of a list are true. -/
def allOk (P : Program) : List Fact → Prop
  | [] => True
  | x :: l => x.ok P ∧ allOk P l
theorem allOk.all {P : Program} : ∀ {l : List Fact}, allOk P l → ∀ x ∈ l, x.ok P
  | _ :: _, h, _, .head _ => h.1
  | _ :: _, h, _, .tail _ hx => h.2.all _ hx

theorem scall_v {P : Program} [ElOK P] (hmix : P.follows .mixedOrders = true) (l : List Fact) (hl : allOk P l) (n : Nat) (p : Plan) {f : FuncId} {args : List SV} {v : SV} {t : Tree SV}
    (ht : (execFn (Env.of P (sumOf l)) n f args p).vals = t) (h : t.holds fun x => x = v) (hd : dataL args = true) (hv : v.data = true) : SCall P f args v :=
  scall_of hmix l hl.all n p rfl (Tree.vals_holds _ (by rw [ht]; exact h)) hd hv

theorem SCall.calls_some {P : Program} {f : FuncId} {fn : Func} {args : List SV} {v : SV} (h : SCall P f args v) (hv : v.data = true) (hf : P.funcs[f]? = some fn) (hb : fn.body.isSome = true) (hn : (fn.name == "runtime.NumGoroutine") = false) (w : World) (vs : List Value) (hvs : RepL (fun b => b < w.heap.size) (fun _ => (0, 0, 0)) 0 w args vs) (hg : Gnd w) :
    Calls P f vs.toArray w fun e w' => ∃ u, e = .returned u ∧ Below w.heap.size w w' ∧ Rep (fun b => b < w'.heap.size) (fun _ => (0, 0, 0)) 0 w' v u := by
  obtain ⟨body, hb⟩ := Option.isSome_iff_exists.mp hb
  exact h.calls hv hf hb hn w vs hvs hg

theorem wrap64 {x : Int} (h : -9223372036854775808 ≤ x) (k : x ≤ 9223372036854775807) : IntKind.wrap .i64 x = x := by
  have h2 : IntKind.wrap .i64 x = if true && decide (x % 18446744073709551616 ≥ 9223372036854775808) then x % 18446744073709551616 - 18446744073709551616 else x % 18446744073709551616 := rfl
  rw [h2]
  simp only [Bool.true_and, decide_eq_true_eq]
  split <;> omega
end Go.Sx
set_option linter.unusedSimpArgs false
set_option linter.unusedVariables false
namespace Go.Sx
open Go.RowKit

mutual
/-- All names lie below. -/
def SV.under (k : Nat) : SV → Bool
  | .row id => Nat.blt id k
  | .arr id _ _ => Nat.blt id k
  | .ptr id _ => Nat.blt id k
  | .rptr id _ _ _ => Nat.blt id k
  | .agg cs => underL k cs
  | .tuple cs => underL k cs
  | .fn _ a b => underL k a && underL k b
  | _ => true
def underL (k : Nat) : List SV → Bool
  | [] => true
  | x :: xs => x.under k && underL k xs
end

def Box.under (k : Nat) : Box → Bool
  | .cells cs => underL k cs
  | .obj _ cs => underL k cs
  | _ => true

mutual
theorem Rep.lower {R R' : Nat → Prop} {ρ : Rho} {n k : Nat} {w : World} (hR : ∀ b, R b → R' b) : ∀ (x : SV) (v : Value), x.under k = true → Rep R ρ n w x v → Rep R' ρ k w x v
  | .undef, _, _, h => h
  | .top, _, _, h => trivial
  | .int _ _, _, _, h => h
  | .bool _, _, _, h => h
  | .str _, _, _, h => h
  | .nilS, _, _, h => h
  | .list t l, v, _, h => RepD.mono (fun b hb => ⟨hR b hb, rfl⟩) (.list t) l [v] h
  | .row id, _, u, h => ⟨by simpa [SV.under] using u, h.2⟩
  | .arr id _ _, _, u, h => ⟨by simpa [SV.under] using u, h.2⟩
  | .ptr id _, _, u, h => ⟨by simpa [SV.under] using u, h.2⟩
  | .nilP, _, _, h => h
  | .eptr t l i off, v, _, h => by
    obtain ⟨b, o, h1, h2, h3⟩ := h
    exact ⟨b, o, h1, h2, h3.mono fun b hb => ⟨hR b hb, rfl⟩⟩
  | .rptr id _ _ _, _, u, h => ⟨by simpa [SV.under] using u, h.2⟩
  | .agg cs, v, u, h => by
    obtain ⟨vs, h1, h2⟩ := h
    exact ⟨vs, h1, RepL.lower hR cs vs u h2⟩
  | .tuple cs, v, u, h => by
    obtain ⟨vs, h1, h2⟩ := h
    exact ⟨vs, h1, RepL.lower hR cs vs u h2⟩
  | .fn f first cap, v, u, h => by
    obtain ⟨vs, us, h1, h2, h3⟩ := h
    have u' : underL k first = true ∧ underL k cap = true := by simpa [SV.under] using u
    exact ⟨vs, us, h1, RepL.lower hR first vs u'.1 h2, RepL.lower hR cap us u'.2 h3⟩
  | .raw _, _, _, h => h
theorem RepL.lower {R R' : Nat → Prop} {ρ : Rho} {n k : Nat} {w : World} (hR : ∀ b, R b → R' b) : ∀ (xs : List SV) (vs : List Value), underL k xs = true → RepL R ρ n w xs vs → RepL R' ρ k w xs vs
  | [], _, _, h => h
  | x :: xs, vs, u, h => by
    obtain ⟨v, us, h1, h2, h3⟩ := h
    have u' : x.under k = true ∧ underL k xs = true := by simpa [underL] using u
    exact ⟨v, us, h1, Rep.lower hR x v u'.1 h2, RepL.lower hR xs us u'.2 h3⟩
end

theorem BoxRel.lower {R R' : Nat → Prop} {ρ : Rho} {n k : Nat} {w : World} {r : Nat × Nat × Nat} (hR : ∀ b, R b → R' b) : ∀ (B : Box), B.under k = true → BoxRel R ρ n w r B → BoxRel R' ρ k w r B
  | .cells cs, u, h => by
    obtain ⟨arr, e, fr, h1, h2, h3⟩ := h
    exact ⟨arr, e, fr, h1, h2, RepL.lower hR _ _ u h3⟩
  | .rows t l, _, h => by
    obtain ⟨h1, h2, h3⟩ := h
    refine ⟨h1, h2, fun h0 => ?_⟩
    obtain ⟨arr, e, fr, k1, k2, k3, k4⟩ := h3 h0
    refine ⟨arr, e, fr, k1, k2, k3, fun i hi => ?_⟩
    obtain ⟨cs, c1, c2, c3⟩ := k4 i hi
    exact ⟨cs, c1, c2, RepD.mono (fun b hb => ⟨hR b hb, rfl⟩) _ _ _ c3⟩
  | .iter s pos, _, h => h
  | .obj t cs, u, h => by
    obtain ⟨arr, h1, h3⟩ := h
    exact ⟨arr, h1, RepL.lower hR _ _ u h3⟩

/-- What is kept of a frame. -/
noncomputable def viewS (fr : Fr) : List Bool → Nat → List SV
  | [], _ => []
  | true :: ks, t => fr.get t :: viewS fr ks (t + 1)
  | false :: ks, t => .top :: viewS fr ks (t + 1)

/-- What is kept of a memory. -/
noncomputable def viewM (m : Mem) : List Bool → Nat → List (Option Box)
  | [], _ => []
  | true :: ks, t => m.get t :: viewM m ks (t + 1)
  | false :: ks, t => none :: viewM m ks (t + 1)

theorem viewS_get (fr : Fr) : ∀ (ks : List Bool) (t i : Nat) (x : SV), (viewS fr ks t)[i]? = some x → x = .top ∨ x = fr.get (t + i)
  | [], _, _, _, h => by simp [viewS] at h
  | true :: ks, t, 0, x, h => by simp [viewS] at h; exact .inr h.symm
  | false :: ks, t, 0, x, h => by simp [viewS] at h; exact .inl h.symm
  | true :: ks, t, i + 1, x, h => by
    have := viewS_get fr ks (t + 1) i x (by simpa [viewS] using h)
    rwa [show t + (i + 1) = t + 1 + i by omega]
  | false :: ks, t, i + 1, x, h => by
    have := viewS_get fr ks (t + 1) i x (by simpa [viewS] using h)
    rwa [show t + (i + 1) = t + 1 + i by omega]
theorem viewS_length (fr : Fr) : ∀ (ks : List Bool) (t : Nat), (viewS fr ks t).length = ks.length
  | [], _ => rfl
  | true :: ks, t => by simp [viewS, viewS_length fr ks]
  | false :: ks, t => by simp [viewS, viewS_length fr ks]
theorem viewM_get (m : Mem) : ∀ (ks : List Bool) (t i : Nat) (x : Box), (viewM m ks t)[i]? = some (some x) → m.get (t + i) = some x
  | [], _, _, _, h => by simp [viewM] at h
  | true :: ks, t, 0, x, h => by simp [viewM] at h; exact h
  | false :: ks, t, 0, x, h => by simp [viewM] at h
  | true :: ks, t, i + 1, x, h => by
    have := viewM_get m ks (t + 1) i x (by simpa [viewM] using h)
    rwa [show t + (i + 1) = t + 1 + i by omega]
  | false :: ks, t, i + 1, x, h => by
    have := viewM_get m ks (t + 1) i x (by simpa [viewM] using h)
    rwa [show t + (i + 1) = t + 1 + i by omega]

/-- A state of this form. -/
structure Canon (slots : List SV) (boxes : List (Option Box)) (fr : Fr) (m : Mem) : Prop where
  size : fr.size = slots.length
  get : ∀ t, fr.get t = slots.getD t .undef
  next : m.next = boxes.length
  box : ∀ id, m.get id = (boxes[id]?).join

def underO (k : Nat) : List (Option Box) → Bool
  | [] => true
  | some b :: l => b.under k && underO k l
  | none :: l => underO k l

theorem underL_get {k : Nat} : ∀ {l : List SV} {i : Nat} {x : SV}, underL k l = true → l[i]? = some x → x.under k = true
  | [], _, _, _, h => by simp at h
  | y :: l, 0, x, u, h => by
    have u' : y.under k = true ∧ underL k l = true := by simpa [underL] using u
    simp at h; subst h; exact u'.1
  | y :: l, i + 1, x, u, h => by
    have u' : y.under k = true ∧ underL k l = true := by simpa [underL] using u
    exact underL_get u'.2 (by simpa using h)
theorem underO_get {k : Nat} : ∀ {l : List (Option Box)} {i : Nat} {x : Box}, underO k l = true → l[i]? = some (some x) → x.under k = true
  | [], _, _, _, h => by simp at h
  | none :: l, 0, x, u, h => by simp at h
  | some y :: l, 0, x, u, h => by
    have u' : y.under k = true ∧ underO k l = true := by simpa [underO] using u
    simp at h; subst h; exact u'.1
  | none :: l, i + 1, x, u, h => underO_get (l := l) (by simpa [underO] using u) (by simpa using h)
  | some y :: l, i + 1, x, u, h => by
    have u' : y.under k = true ∧ underO k l = true := by simpa [underO] using u
    exact underO_get u'.2 (by simpa using h)

/-- A state is also what is left of it. -/
theorem SRelD.weaken {ds : List Deferred} {w0 : World} {R0 : Nat → Prop} {ρ : Rho} {w : World} {fr fr2 : Fr} {m m2 : Mem} {a : Act} {slots : List SV} {boxes : List (Option Box)} (h : SRelD ds w0 R0 ρ w fr m a) (hc : Canon slots boxes fr2 m2)
    (hlen : slots.length = fr.size) (hs : ∀ (i : Nat) (x : SV), slots[i]? = some x → x = .top ∨ x = fr.get i) (hb : ∀ (i : Nat) (B : Box), boxes[i]? = some (some B) → m.get i = some B)
    (us : underL boxes.length slots = true) (ub : underO boxes.length boxes = true) : SRelD ds w0 R0 ρ w fr2 m2 a ∧ ∀ b, RO w0 R0 ρ w m b → RO w0 R0 ρ w m2 b := by
  obtain ⟨h1, h2, h3⟩ := h
  have hg : ∀ id B, m2.get id = some B → boxes[id]? = some (some B) ∧ m.get id = some B := fun id B hB => by
    rw [hc.box id] at hB
    have : boxes[id]? = some (some B) := by
      cases hx : boxes[id]? with
      | none => rw [hx] at hB; cases hB
      | some y => rw [hx] at hB; simp at hB; rw [hB]
    exact ⟨this, hb id B this⟩
  have hro : ∀ b, RO w0 R0 ρ w m b → RO w0 R0 ρ w m2 b := fun b hb => by
    rcases hb with hb | ⟨k1, k2, k3⟩
    · exact .inl hb
    · exact .inr ⟨k1, k2, fun id B hB => k3 id B (hg id B hB).2⟩
  refine ⟨⟨⟨h1.below, fun id B hB => ?_, fun id B hB => h1.lo id B (hg id B hB).2, fun id B hB => h1.hi id B (hg id B hB).2, fun id id' B B' hB hB' => h1.inj id id' B B' (hg id B hB).2 (hg id' B' hB').2, fun id B hB => ?_⟩, ⟨?_, fun t => ?_⟩, h3⟩, hro⟩
  · rw [hc.next]
    have := (hg id B hB).1
    exact (List.getElem?_eq_some_iff.mp this).1
  · rw [hc.next]
    exact BoxRel.lower hro B (underO_get ub (hg id B hB).1) (h1.box id B (hg id B hB).2)
  · rw [hc.size, hlen]; exact h2.1
  · rw [hc.get t, hc.next]
    rw [List.getD_eq_getElem?_getD]
    cases hx : slots[t]? with
    | none =>
      have ht : slots.length ≤ t := by simpa using hx
      have : a.tmps.getD t Go.undef = Go.undef := by
        rw [Array.getD_eq_getD_getElem?, Array.getElem?_eq_none (by rw [← h2.1, ← hlen]; exact ht)]
        rfl
      rw [this]; exact rfl
    | some x =>
      rcases hs t x hx with rfl | rfl
      · exact trivial
      · exact Rep.lower hro _ _ (underL_get us hx) (h2.2 t)

theorem Reach.weaken {P : Program} {items items' : List Item} {fr fr1 fr2 : Fr} {m m1 m2 : Mem} {slots : List SV} {boxes : List (Option Box)} (h : Reach P items fr m (.stop items' fr1 m1)) (hc : Canon slots boxes fr2 m2)
    (hlen : slots.length = fr1.size) (hs : ∀ (i : Nat) (x : SV), slots[i]? = some x → x = .top ∨ x = fr1.get i) (hb : ∀ (i : Nat) (B : Box), boxes[i]? = some (some B) → m1.get i = some B)
    (us : underL boxes.length slots = true) (ub : underO boxes.length boxes = true) (hn : m.next ≤ boxes.length) : Reach P items fr m (.stop items' fr2 m2) := by
  intro ds w0 R0 ρ w a hsr b cs
  obtain ⟨ρ1, w1, a1, g1, g2, g3⟩ := h w0 R0 ρ w a hsr b cs
  obtain ⟨k1, k2⟩ := g1.weaken hc hlen hs hb us ub
  exact ⟨ρ1, w1, a1, k1, ⟨by rw [hc.next]; exact hn, g2.same, fun b hb => ⟨k2 b (g2.keep b hb).1, (g2.keep b hb).2⟩⟩, g3⟩

/-! ### Segments -/

inductive Stop where
  | done (v : SV)
  | at (items : List Item) (size : Nat) (slots : List SV) (boxes : List (Option Box))

noncomputable def memFill {α : Type} : List (Option Box) → Mem → (Mem → Tree α) → Tree α
  | [], m, k => k m
  | some B :: l, m, k => m.push B fun m _ => memFill l m k
  | none :: l, m, k => memFill l ⟨m.next + 1, m.tb⟩ k

theorem memFill_holds {α : Type} {L : α → Prop} : ∀ (l : List (Option Box)) (m : Mem) (k : Mem → Tree α), (memFill l m k).holds L → (∀ id, m.next ≤ id → m.get id = none) →
    ∃ m', (k m').holds L ∧ m'.next = m.next + l.length ∧ (∀ id, id < m.next → m'.get id = m.get id) ∧ ∀ id, m'.get (m.next + id) = (l[id]?).join
  | [], m, k, h, hf => ⟨m, h, rfl, fun _ _ => rfl, fun id => by simpa using hf (m.next + id) (by omega)⟩
  | none :: l, m, k, h, hf => by
    obtain ⟨m', h1, h2, h3, h4⟩ := memFill_holds l ⟨m.next + 1, m.tb⟩ k h fun id hid => hf id (by dsimp only at hid; omega)
    refine ⟨m', h1, by rw [h2]; simp; omega, fun id hid => h3 id (by dsimp only; omega), fun id => ?_⟩
    cases id with
    | zero =>
      rw [h3 (m.next + 0) (by dsimp only; omega)]
      simpa [Mem.get] using hf m.next (Nat.le_refl _)
    | succ id =>
      have := h4 id
      dsimp only at this
      rw [show m.next + (id + 1) = m.next + 1 + id by omega, this]
      simp
  | some B :: l, m, k, h, hf => by
    obtain ⟨m1, hp, h0⟩ := Mem.push_holds (k := fun m _ => memFill l m k) h
    obtain ⟨m', h1, h2, h3, h4⟩ := memFill_holds l m1 k h0 fun id hid => by
      rw [hp.2] at hid
      rw [hp.1 id, if_neg (by omega)]
      exact hf id (by omega)
    rw [hp.2] at h2 h3 h4
    refine ⟨m', h1, by rw [h2]; simp; omega, fun id hid => ?_, fun id => ?_⟩
    · rw [h3 id (by omega), hp.1 id, if_neg (by omega)]
    · cases id with
      | zero =>
        rw [h3 (m.next + 0) (by omega), hp.1]
        simp
      | succ id =>
        rw [show m.next + (id + 1) = m.next + 1 + id by omega, h4 id]
        simp
end Go.Sx
