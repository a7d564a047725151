/-
  Sx15: code and calls: what the evaluator reaches, the machine reaches; a contract out of a tree.
-/
import Derived.Test.YtibpodgdondakaaSx14
set_option linter.unusedSimpArgs false
set_option linter.unusedVariables false
namespace Go.Sx
open Go.RowKit
section
variable {P : Program} {E : Env} {α : Type}

/-- From the one state of the evaluator to the other the machine goes, in whatever world. -/
def Reach (P : Program) (items : List Item) (fr : Fr) (m : Mem) (out : Out) : Prop :=
  ∀ w0 R0 ρ w a, SRel w0 R0 ρ w fr m a → ∀ (b : Frame) (cs : List Frame), match out with
    | .ret _ fr' m' => ∃ ρ' w' a' todo, SRel w0 R0 ρ' w' fr' m' a' ∧ MExt w0 R0 ρ w m ρ' w' m' ∧ Steps P (lone (b.at a items) cs w) (lone { b.at a' todo with mode := .returning } cs w')
    | .stop items' fr' m' => ∃ ρ' w' a', SRel w0 R0 ρ' w' fr' m' a' ∧ MExt w0 R0 ρ w m ρ' w' m' ∧ Steps P (lone (b.at a items) cs w) (lone (b.at a' items') cs w')

theorem Reach.trans {items items' : List Item} {fr fr' : Fr} {m m' : Mem} {out : Out} (h : Reach P items fr m (.stop items' fr' m')) (k : Reach P items' fr' m' out) : Reach P items fr m out := by
  intro w0 R0 ρ w a hs b cs
  obtain ⟨ρ1, w1, a1, h1, h2, h3⟩ := h w0 R0 ρ w a hs b cs
  have h4 := k w0 R0 ρ1 w1 a1 h1 b cs
  cases out with
  | ret p fr2 m2 =>
    obtain ⟨ρ2, w2, a2, todo, g1, g2, g3⟩ := h4
    exact ⟨ρ2, w2, a2, todo, g1, h2.trans g2, h3.trans g3⟩
  | stop it fr2 m2 =>
    obtain ⟨ρ2, w2, a2, g1, g2, g3⟩ := h4
    exact ⟨ρ2, w2, a2, g1, h2.trans g2, h3.trans g3⟩

/-- One step of the machine that leaves the frame and the world alone. -/
theorem Reach.step {items items' : List Item} {fr : Fr} {m : Mem} (h : ∀ (b : Frame) (a : Act) cs w, (∀ x, ∃ R ρ n, Rep R ρ n w (evalIn fr x) (a.eval x)) → Go.step P (lone (b.at a items) cs w) = .next (lone (b.at a items') cs w)) : Reach P items fr m (.stop items' fr m) :=
  fun w0 R0 ρ w a hs b cs => ⟨ρ, w, a, hs, Ext.refl _ _ _ _, .one (h b a cs w fun x => ⟨_, _, _, hs.2.1.eval x⟩)⟩

theorem Reach.refl (items : List Item) (fr : Fr) (m : Mem) : Reach P items fr m (.stop items fr m) :=
  fun w0 R0 ρ w a hs b cs => ⟨ρ, w, a, hs, Ext.refl _ _ _ _, Steps.refl _ _⟩

/-- What is shown of the evaluator at some fuel. -/
def ExecOK (P : Program) (ih : ExecK α) : Prop :=
  ∀ items p fr m (κ : Out → Tree α) (L : α → Prop), (ih items p fr m κ).holds L → ∃ out, (κ out).holds L ∧ Reach P items fr m out

theorem callFunc_enter {f : FuncId} {fn : Func} {body : Code} (hf : P.funcs[f]? = some fn) (hb : fn.body = some body) (hn : (fn.name == "runtime.NumGoroutine") = false) (args : Array Value) (w : World) : (Go.callFunc f args).run P w = .ok (.enter f args) w := by
  simp only [Go.callFunc, Sem.run_bind, run_program, Result.andThen_ok, hf, hn, Bool.false_eq_true, if_false, hb, Option.isNone_some, Sem.run_pure]

/-- A call whose body is reached to its end. -/
theorem calls_of_reach {f : FuncId} {fn : Func} {body : Code} (hf : P.funcs[f]? = some fn) (hb : fn.body = some body) {fr fr' : Fr} {m m' : Mem} {p : Plan} (hr : Reach P [.code body] fr m (.ret p fr' m')) {v : SV}
    (hv : ∀ w0 R0 ρ w a, SRel w0 R0 ρ w fr' m' a → ∃ u, (Go.results fn a.tmps).run P w = .ok u w ∧ Rep (RO w0 R0 ρ w m') ρ m'.next w v u) {w0 : World} {R0 : Nat → Prop} {ρ : Rho} {w : World} {vs : List Value} (hm : MRel w0 R0 ρ w m)
    (hfr : FRel (RO w0 R0 ρ w m) ρ m.next w fr (vs.toArray ++ Array.replicate (fn.ntmps - vs.toArray.size) Go.undef)) :
    Calls P f vs.toArray w fun e w' => ∃ u, e = .returned u ∧ ∃ ρ', MRel w0 R0 ρ' w' m' ∧ MExt w0 R0 ρ w m ρ' w' m' ∧ Rep (RO w0 R0 ρ' w' m') ρ' m'.next w' v u := by
  intro cs
  let b : Frame := { (default : Frame) with fn := f, kind := .normal }
  have henter : Frame.enter P f vs.toArray .normal = b.at { tmps := vs.toArray ++ Array.replicate (fn.ntmps - vs.toArray.size) Go.undef, defers := [] } [.code body] := by
    simp [Frame.enter, Frame.at, hf, hb, b]
  obtain ⟨ρ', w', a', todo, g1, g2, g3⟩ := hr w0 R0 ρ w { tmps := vs.toArray ++ Array.replicate (fn.ntmps - vs.toArray.size) Go.undef, defers := [] } ⟨hm, hfr, rfl⟩ b cs
  obtain ⟨u, h1, h2⟩ := hv w0 R0 ρ' w' a' g1
  refine ⟨.returned u, w', _, ⟨u, rfl, ρ', g1.1, g2, h2⟩, by rw [henter]; exact g3, rfl, rfl, g1.2.2, rfl, fn, hf, h1⟩

theorem emptyMem_get (k : Nat) : (⟨0, .e⟩ : Mem).get k = none := rfl

theorem own_mem {w0 : World} {R0 : Nat → Prop} {ρ : Rho} {w : World} {m : Mem} (hm : MRel w0 R0 ρ w m) (ρc : Rho) : MRel w (RO w0 R0 ρ w m) ρc w ⟨0, .e⟩ ∧ ∀ b, RO w0 R0 ρ w m b → RO w (RO w0 R0 ρ w m) ρc w ⟨0, .e⟩ b :=
  ⟨⟨Below.refl _ _, fun id B h => (by cases h), fun id B h => (by cases h), fun id B h => (by cases h), fun id id' B B' h => (by cases h), fun id B h => (by cases h)⟩, fun b hb => .inl ⟨hb, hm.ro_lt hb⟩⟩

theorem callIn_ok (hE : EOK P E) (hS : SumOK P E) {ih : ExecK α} (hih : ExecOK P ih) : CallOK P false (callIn E ih) := by
  intro f args p m κ L h
  unfold callIn at h
  split at h
  · rename_i s hs
    split at h
    · rename_i t ht
      obtain ⟨v, p', h1, h2⟩ := bindT_holds t p h (hS f s args t hs ht)
      exact ⟨v, p', m, h1, fun hq => (by cases hq), h2 m⟩
    · exact h.elim
  · split at h
    · rename_i fn hfn
      have hf := hE.fn f fn hfn
      split at h
      · rename_i body hb
        split at h
        · rename_i hn
          split at h
          · rename_i hd
            obtain ⟨fr, h1, h2, h3, h4⟩ := make_holds h
            obtain ⟨out, h5, h6⟩ := hih _ _ _ _ _ _ h1
            cases out with
            | stop it fr' m' => exact h5.elim
            | ret p' fr' mc =>
              dsimp only at h5
              obtain ⟨v, h7, h8⟩ := results_holds hE h5
              obtain ⟨v', m', h9, h10⟩ := adopt_holds h7
              refine ⟨v', p', m', h9, fun hq => (by cases hq), fun w0 R0 ρ w vs hm hvs => ?_⟩
              rw [callFunc_enter hf hb hn]
              obtain ⟨o1, o2⟩ := own_mem hm ρ
              have hfr := frame_rel h2 h3 h4 (RepL.data (R' := RO w (RO w0 R0 ρ w m) ρ w ⟨0, .e⟩) (ρ' := ρ) (n' := 0) o2 args vs hd hvs)
              refine Calls.mono (calls_of_reach hf hb h6 h8 o1 hfr) fun e w' ⟨u, he, ρ', g1, g2, g3⟩ => ⟨u, he, ?_⟩
              exact h10 w0 R0 ρ w ρ' w' u hm g1 g3
          · obtain ⟨fr, h1, h2, h3, h4⟩ := make_holds h
            obtain ⟨out, h5, h6⟩ := hih _ _ _ _ _ _ h1
            cases out with
            | stop it fr' m' => exact h5.elim
            | ret p' fr' mc =>
              dsimp only at h5
              obtain ⟨v, h7, h8⟩ := results_holds hE h5
              refine ⟨v, p', mc, h7, fun hq => (by cases hq), fun w0 R0 ρ w vs hm hvs => ?_⟩
              rw [callFunc_enter hf hb hn]
              exact calls_of_reach hf hb h6 h8 hm (frame_rel h2 h3 h4 hvs)
        · exact h.elim
      · exact h.elim
    · exact h.elim

theorem callQ_ok (hE : EOK P E) (hS : SumOK P E) {ih : ExecK α} (hih : ExecOK P ih) : CallOK P true (callQ E ih) := by
  intro f args p m κ L h
  unfold callQ at h
  split at h
  · rename_i s hs
    split at h
    · rename_i t ht
      obtain ⟨v, p', h1, h2⟩ := bindT_holds t p h (hS f s args t hs ht)
      exact ⟨v, p', m, h1, fun _ => ⟨rfl, h2⟩, h2 m⟩
    · exact h.elim
  · split at h
    · rename_i fn hfn
      have hf := hE.fn f fn hfn
      split at h
      · rename_i body hb
        split at h
        · rename_i hn
          split at h
          · rename_i hd
            obtain ⟨fr, h1, h2, h3, h4⟩ := make_holds h
            obtain ⟨out, h5, h6⟩ := hih _ _ _ _ _ _ h1
            cases out with
            | stop it fr' m' => exact h5.elim
            | ret p' fr' mc =>
              dsimp only at h5
              obtain ⟨v, h7, h8⟩ := results_holds hE h5
              split at h7
              · rename_i hvd
                suffices key : ∀ m, SemCall P m v m f args from ⟨v, p', m, h7, fun _ => ⟨rfl, key⟩, key m⟩
                intro m w0 R0 ρ w vs hm hvs
                rw [callFunc_enter hf hb hn]
                obtain ⟨o1, o2⟩ := own_mem hm ρ
                have hfr := frame_rel h2 h3 h4 (RepL.data (R' := RO w (RO w0 R0 ρ w m) ρ w ⟨0, .e⟩) (ρ' := ρ) (n' := 0) o2 args vs hd hvs)
                refine Calls.mono (calls_of_reach hf hb h6 h8 o1 hfr) fun e w' ⟨u, he, ρ', g1, g2, g3⟩ => ⟨u, he, ?_⟩
                have hst := Hand.start hm g1
                obtain ⟨k1, k2⟩ := hst.finish hm g1
                exact ⟨ρ, k1, k2, Rep.data (fun b hb => hst.ro b (.inr hb)) v u hvd g3⟩
              · exact h7.elim
          · exact h.elim
        · exact h.elim
      · exact h.elim
    · exact h.elim

theorem region_reach (hE : EOK P E) (hS : SumOK P E) (hmix : P.follows .mixedOrders = true) {ih : ExecK α} (hih : ExecOK P ih) {id : Nat} {ops : Array Oper} {draw : Bool} {k : List Item} {p : Plan} {fr : Fr} {m : Mem} {κ : Out → Tree α} {L : α → Prop} (h : (codeStep E ih (.region id ops draw) k p fr m κ).holds L) :
    ∃ p' fr' m', (ih k p' fr' m' κ).holds L ∧ Reach P (.code (.region id ops draw) :: k) fr m (.stop k fr' m') := by
  have fin : ∀ (fr' : Fr) (m' : Mem), (∀ w0 R0 ρ w a, SRel w0 R0 ρ w fr m a → (Code.region id ops draw).wp P (fun e a' w' => e = .normal ∧ ∃ ρ', SRel w0 R0 ρ' w' fr' m' a' ∧ MExt w0 R0 ρ w m ρ' w' m') a w) → Reach P (.code (.region id ops draw) :: k) fr m (.stop k fr' m') := by
    intro fr' m' hw w0 R0 ρ w a hs b cs
    obtain ⟨e, a', w', ⟨rfl, ρ', g1, g2⟩, harr⟩ := hw w0 R0 ρ w a hs b k cs
    exact ⟨ρ', w', a', g1, g2, harr⟩
  dsimp only [codeStep] at h
  cases draw with
  | false =>
    obtain ⟨p', fr', m', h1, h2⟩ := execOps_chain hE (callIn_ok hE hS hih) _ _ _ _ h
    refine ⟨p', fr', m', h1, fin fr' m' fun w0 R0 ρ w a hs => wp_region ?_⟩
    have := chain_wpOps (Q := fun e a' w' => e = .normal ∧ ∃ ρ', SRel w0 R0 ρ' w' fr' m' a' ∧ MExt w0 R0 ρ w m ρ' w' m') h2 0 rfl ρ w a hs (fun ρ' w' a' g1 g2 => ⟨rfl, ρ', g1, g2⟩)
    rw [← List.range_eq_range'] at this
    simpa using this
  | true =>
    dsimp only at h
    split at h
    · rename_i hlex
      split at h <;> try exact h.elim
      rename_i hwetb
      obtain ⟨p', fr', m', h1, h2⟩ := execOps_chainW hE (callQ_ok hE hS hih) _ _ _ _ h
      obtain ⟨frs, vals, ms, hw⟩ := h2.toWalk
      obtain ⟨al, af, hwet⟩ := wetB_spec hwetb
      refine ⟨p', fr', m', h1, fin fr' m' fun w0 R0 ρ w a hs => wp_region_any hmix ?_⟩
      have hlex' : Region.lexB .any ops.toList.toArray = true := by simpa using hlex
      have hns : Region.noSelect ops.toList.toArray = true := by
        have := hlex'; simp only [Region.lexB, Bool.and_eq_true] at this; exact this.1
      obtain ⟨hm, hfr, hd⟩ := hs
      obtain ⟨hm1, he1⟩ := hm.drew
      have hfr1 := hfr.mono he1
      have hcur0 : ∀ (n : Nat) t, cur ops.toList fr vals (fun i => (Array.replicate ops.toList.length false).getD i true) n t = fr.get t ∨ n > ops.toList.length := by
        intro n
        induction n with
        | zero => intro t; exact .inl rfl
        | succ n ih2 =>
          intro t
          rcases Nat.lt_or_ge ops.toList.length (n + 1) with hgt | hle
          · exact .inr hgt
          · left
            simp only [cur]
            have hf : (Array.replicate ops.toList.length false).getD n true = false := by
              rw [Array.getD_eq_getD_getElem?, Array.getElem?_replicate, if_pos (by omega)]; rfl
            rw [if_neg (fun hc => by have := hc.1; rw [hf] at this; cases this)]
            exact (ih2 t).resolve_right (by omega)
      have hfresh : m.get m.next = none := by
        cases hx : m.get m.next with
        | none => rfl
        | some B => exact absurd (hm.lt _ _ hx) (Nat.lt_irrefl _)
      have hquiet : ∀ i o, ops.toList[i]? = some o → writer o.op = false → ms (i + 1) = ms i := fun i o ho hwr => wet_keep hw hwet i o ho hwr
      have eAll : curM ops.toList ms (fun _ => true) ops.toList.length = m' := by rw [curM_all hquiet _ (Nat.le_refl _) (fun _ _ _ => rfl), hw.mlast]
      have eNone : curM ops.toList ms (fun k => (Array.replicate ops.toList.length false).getD k true) ops.toList.length = m := by
        rw [curM_past (i := 0) _ (Nat.zero_le _) (fun k _ h2 _ => by rw [Array.getD_eq_getD_getElem?, Array.getElem?_replicate, if_pos h2]; rfl)]
        exact hw.mfirst
      have key := any_order (w0 := w0) (R0 := R0) (M := fun S => curM ops.toList ms S ops.toList.length) ⟨hw.first, hw.last, hw.next⟩ (indep_of_lexB hlex') (fun S S' hS => curM_congr _ fun k hk _ => hS k hk) (fun S i o hoi hSi hcl hrd => wet_step hw hwet hfresh S i o hoi hSi hcl hrd) hns (Q := fun e a' w' => e = .normal ∧ ∃ ρ', SRel w0 R0 ρ' w' fr' m' a' ∧ MExt w0 R0 ρ w m ρ' w' m') (Ψ := fun ρ' w' mm => MExt w0 R0 ρ w m ρ' w' mm)
        (fun _ _ _ _ _ _ h1 h2 => h1.trans h2) (fun ρ' w' a' g1 g2 => by rw [eAll] at g1 g2; exact ⟨rfl, ρ', g1, g2⟩) ops.toList.length (Array.replicate ops.toList.length false) ρ w.drew a (by simp)
        (by
          have : ∀ n, n ≤ ops.toList.length → unlisted (Array.replicate ops.toList.length false) n = n := by
            intro n
            induction n with
            | zero => intro _; rfl
            | succ n ih2 =>
              intro hn
              have hf : (Array.replicate ops.toList.length false).getD n true = false := by
                rw [Array.getD_eq_getD_getElem?, Array.getElem?_replicate, if_pos (by omega)]; rfl
              simp only [unlisted, ih2 (by omega), hf]
              simp
          exact this _ (Nat.le_refl _))
        (fun j oj hj hl => by
          have hjl := (List.getElem?_eq_some_iff.1 hj).1
          rw [Array.getD_eq_getD_getElem?, Array.getElem?_replicate, if_pos (by omega)] at hl
          cases hl)
        (by rw [eNone]; exact hm1) hfr.1 hd (fun t => by rw [(hcur0 _ t).resolve_right (by omega), eNone]; exact hfr1.2 t) (by rw [eNone]; exact he1)
      simpa using key
    · exact h.elim

theorem exec_ok (hE : EOK P E) (hS : SumOK P E) (hmix : P.follows .mixedOrders = true) : ∀ n : Nat, ExecOK P (exec (α := α) E n)
  | 0 => fun items p fr m κ L h => h.elim
  | n + 1 => by
    have ihn := exec_ok hE hS hmix n
    intro items p fr m κ L h
    change (stepIn E (exec E n) items p fr m κ).holds L at h
    -- on from where one step leads
    have onn : ∀ (items' : List Item) (p : Plan) (fr' : Fr) (m' : Mem), (exec E n items' p fr' m' κ).holds L → Reach P items fr m (.stop items' fr' m') → ∃ out, (κ out).holds L ∧ Reach P items fr m out := by
      intro items' p fr' m' h1 h2
      obtain ⟨out, h3, h4⟩ := ihn _ _ _ _ _ _ h1
      exact ⟨out, h3, h2.trans h4⟩
    unfold stepIn at h
    split at h
    · exact ⟨_, h, fun w0 R0 ρ w a hs b cs => ⟨ρ, w, a, [], hs, Ext.refl _ _ _ _, .one step_end⟩⟩
    · rename_i id k
      exact onn _ _ _ _ h (Reach.step fun b a cs w _ => step_inBlock)
    · rename_i bd k
      split at h
      · exact onn _ _ _ _ h (Reach.step fun b a cs w _ => step_inLoop)
      · exact onn _ _ _ _ h (Reach.step fun b a cs w _ => step_inLoop)
      · exact ⟨_, h, Reach.refl _ _ _⟩
    · rename_i c k
      cases c with
      | skip => exact onn _ _ _ _ h (Reach.step fun b a cs w _ => step_skip)
      | label l => exact onn _ _ _ _ h (Reach.step fun b a cs w _ => step_label)
      | region id ops draw =>
        obtain ⟨p', fr', m', h1, h2⟩ := region_reach hE hS hmix ihn h
        exact onn _ _ _ _ h1 h2
      | seq x y => exact onn _ _ _ _ h (Reach.step fun b a cs w _ => step_seq)
      | cond c x y =>
        dsimp only [codeStep] at h
        split at h
        · rename_i bb hc
          obtain ⟨p', h⟩ := dec_holds h
          have st : ∀ (a : Act) (w : World), (∀ x, ∃ R ρ n, Rep R ρ n w (evalIn fr x) (a.eval x)) → a.eval c = .bool bb := fun a w hx => by
            obtain ⟨R, ρ, n, h1⟩ := hx c
            rw [hc] at h1; exact h1
          cases bb with
          | true => exact onn _ _ _ _ h (Reach.step fun b a cs w hx => by have := step_cond (P := P) (b := b) (a := a) (k := k) (cs := cs) (w := w) (x := x) (y := y) (st a w hx); simpa using this)
          | false => exact onn _ _ _ _ h (Reach.step fun b a cs w hx => by have := step_cond (P := P) (b := b) (a := a) (k := k) (cs := cs) (w := w) (x := x) (y := y) (st a w hx); simpa using this)
        · exact h.elim
      | block id bd => exact onn _ _ _ _ h (Reach.step fun b a cs w _ => step_block)
      | loop bd =>
        dsimp only [codeStep] at h
        split at h
        · exact onn _ _ _ _ h (Reach.step fun b a cs w _ => step_loop)
        · exact onn _ _ _ _ h (Reach.step fun b a cs w _ => step_loop)
        · exact ⟨_, h, Reach.refl _ _ _⟩
      | rangeFunc f ps as bd => exact h.elim
      | exit id =>
        dsimp only [codeStep] at h
        split at h
        · rename_i k' hk
          exact onn _ _ _ _ h (Reach.step fun b a cs w _ => step_exit hk)
        · exact h.elim
      | scope bd => exact h.elim
      | goto l => exact h.elim
      | ret => exact ⟨_, h, fun w0 R0 ρ w a hs b cs => ⟨ρ, w, a, _, hs, Ext.refl _ _ _ _, .one step_ret⟩⟩
      | refuse why => exact h.elim
    · exact h.elim

/-! ### Contracts -/

/-- What is asked of a program and of what is known of it. -/
structure Known (P : Program) (E : Env) : Prop where
  e : EOK P E
  s : SumOK P E
  mix : P.follows .mixedOrders = true

/-- A contract of a function that is handed data and hands back data. -/
theorem scall_of_exec (hK : Known P E) {n : Nat} {f : FuncId} {args : List SV} {p : Plan} {v : SV} (hd : dataL args = true) (hvd : v.data = true) (h : (execFn E n f args p).holds fun x => x.1 = v) : SCall P f args v := by
  intro m w0 R0 ρ w vs hm hvs
  unfold execFn at h
  split at h
  · rename_i fn hfn
    have hf := hK.e.fn f fn hfn
    split at h
    · rename_i body hb
      split at h
      · rename_i hn
        obtain ⟨fr, h1, h2, h3, h4⟩ := make_holds h
        obtain ⟨out, h5, h6⟩ := exec_ok hK.e hK.s hK.mix n _ _ _ _ _ _ h1
        cases out with
        | stop it fr' m' => exact h5.elim
        | ret p' fr' mc =>
          dsimp only at h5
          obtain ⟨v', h7, h8⟩ := results_holds hK.e h5
          obtain rfl : v' = v := h7
          rw [callFunc_enter hf hb hn]
          obtain ⟨o1, o2⟩ := own_mem hm ρ
          have hfr := frame_rel h2 h3 h4 (RepL.data (R' := RO w (RO w0 R0 ρ w m) ρ w ⟨0, .e⟩) (ρ' := ρ) (n' := 0) o2 args vs hd hvs)
          refine Calls.mono (calls_of_reach hf hb h6 h8 o1 hfr) fun e w' ⟨u, he, ρ', g1, g2, g3⟩ => ⟨u, he, ?_⟩
          have hst := Hand.start hm g1
          obtain ⟨k1, k2⟩ := hst.finish hm g1
          exact ⟨ρ, k1, k2, Rep.data (fun b hb => hst.ro b (.inr hb)) v' u hvd g3⟩
      · exact h.elim
    · exact h.elim
  · exact h.elim

/-- A contract, as the model's own 'Calls' says it: whatever world, arguments that say these values. -/
theorem SCall.calls {f : FuncId} {fn : Func} {body : Code} {args : List SV} {v : SV} (h : SCall P f args v) (hv : v.data = true) (hf : P.funcs[f]? = some fn) (hb : fn.body = some body) (hn : (fn.name == "runtime.NumGoroutine") = false) (w : World) (vs : List Value) (hvs : RepL (fun b => b < w.heap.size) (fun _ => (0, 0, 0)) 0 w args vs) :
    Calls P f vs.toArray w fun e w' => ∃ u, e = .returned u ∧ Below w.heap.size w w' ∧ Rep (fun b => b < w'.heap.size) (fun _ => (0, 0, 0)) 0 w' v u := by
  have hm : MRel w (fun _ => True) (fun _ => (0, 0, 0)) w ⟨0, .e⟩ := ⟨Below.refl _ _, fun id B h => (by cases h), fun id B h => (by cases h), fun id B h => (by cases h), fun id id' B B' h => (by cases h), fun id B h => (by cases h)⟩
  have hext : Ext (fun b => b < w.heap.size) (fun _ => (0, 0, 0)) 0 w (RO w (fun _ => True) (fun _ => (0, 0, 0)) w ⟨0, .e⟩) (fun _ => (0, 0, 0)) 0 w := ⟨Nat.le_refl _, fun _ _ => rfl, fun b hb => ⟨.inl ⟨trivial, hb⟩, rfl⟩⟩
  have h1 := h ⟨0, .e⟩ w (fun _ => True) (fun _ => (0, 0, 0)) w vs hm (RepL.mono hext _ _ hvs)
  rw [callFunc_enter hf hb hn] at h1
  refine Calls.mono h1 fun e w' ⟨u, he, ρ', g1, g2, g3⟩ => ⟨u, he, g1.below, ?_⟩
  refine Rep.data (fun b hb => ?_) v u hv g3
  exact g1.ro_lt hb
end
end Go.Sx
