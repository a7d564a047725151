/-
  Sx20: a call with loops: states, segments, descent.
-/
import Derived.Test.YtibpodgdondakaaSx19
set_option linter.unusedSimpArgs false
set_option linter.unusedVariables false
namespace Go.Sx
open Go.RowKit

/-- The loop's body is entered. -/
def enter : List Item → List Item
  | .code (.loop b) :: k => .code b :: .inLoop b :: k
  | .inLoop b :: k => .code b :: .inLoop b :: k
  | x => x

/-- The loops of a code, each with what comes behind it, as they stand when entered. -/
def loopsIn : Code → List Item → List (List Item)
  | .seq a b, k => loopsIn a (.code b :: k) ++ loopsIn b k
  | .cond _ x y, k => loopsIn x k ++ loopsIn y k
  | .block id b, k => loopsIn b (.inBlock id :: k)
  | .loop b, k => (.code b :: .inLoop b :: k) :: loopsIn b (.inLoop b :: k)
  | _, _ => []

def fnOf (P : Program) (f : FuncId) : Func := match P.funcs[f]? with
  | some fn => fn
  | none => default
def bodyOf (P : Program) (f : FuncId) : Code := match (fnOf P f).body with
  | some b => b
  | none => .skip
/-- The loop of that number in a function. -/
def loopOf (P : Program) (f : FuncId) (i : Nat) : List Item := ((loopsIn (bodyOf P f) [])[i]?).getD []

/-- From a state to the next head of a loop, or to the end. -/
noncomputable def seg (E : Env) (n : Nat) (fn : Func) (keep : List Item → List Bool × List Bool) (items : List Item) (p : Plan) (slots : List SV) (boxes : List (Option Box)) : Tree Stop :=
  Fr.make slots.length slots fun fr => memFill boxes ⟨0, .e⟩ fun m => exec E n items p fr m fun o => match o with
    | .ret _ fr m => results E fn m fr fun v => .leaf (.done v)
    | .stop items fr m => .leaf (.at (enter items) fr.size (viewS fr (keep items).1 0) (viewM m (keep items).2 0))

/-- From such a state the code comes to its end, with this value. -/
def Runs (P : Program) (fn : Func) (v : SV) (items : List Item) (slots : List SV) (boxes : List (Option Box)) : Prop :=
  ∀ fr m, Canon slots boxes fr m → ∃ p fr' m', Reach P items fr m (.ret p fr' m') ∧
    ∀ w0 R0 ρ w a, SRel w0 R0 ρ w fr' m' a → ∃ u, (Go.results fn a.tmps).run P w = .ok u w ∧ Rep (RO w0 R0 ρ w m') ρ m'.next w v u

theorem tbSet_ex {β : Type} : ∀ (i : Nat) (t : Tb β) (v : Option β), ∃ t', TbSet t i v t' := by
  intro i
  induction i using Nat.strongRecOn with
  | ind i ih =>
    intro t v
    obtain ⟨l, x, r, hg⟩ : ∃ l x r, ∀ k, t.get k = (Tb.n l x r).get k := by
      cases t with
      | n l x r => exact ⟨l, x, r, fun _ => rfl⟩
      | e =>
        refine ⟨.e, none, .e, fun k => ?_⟩
        cases k with
        | zero => rfl
        | succ j =>
          rw [Tb.get_n_succ]
          by_cases h : j % 2 = 0
          · rw [Tb.pick_even h]; rfl
          · rw [Tb.pick_odd h]; rfl
    cases i with
    | zero =>
      refine ⟨.n l v r, fun k => ?_⟩
      cases k with
      | zero => rfl
      | succ j => rw [if_neg (by omega), hg]; rfl
    | succ i =>
      by_cases hi : i % 2 = 0
      · obtain ⟨l', hl⟩ := ih (i / 2) (by omega) l v
        refine ⟨.n l' x r, fun k => ?_⟩
        cases k with
        | zero => rw [if_neg (by omega), hg]; rfl
        | succ j =>
          rw [hg, Tb.get_n_succ, Tb.get_n_succ]
          by_cases h : j % 2 = 0
          · rw [Tb.pick_even h, Tb.pick_even h, hl]
            by_cases e : j = i
            · subst e; simp
            · rw [if_neg (by omega), if_neg (by omega)]
          · rw [Tb.pick_odd h, Tb.pick_odd h, if_neg (by omega)]
      · obtain ⟨r', hr⟩ := ih (i / 2) (by omega) r v
        refine ⟨.n l x r', fun k => ?_⟩
        cases k with
        | zero => rw [if_neg (by omega), hg]; rfl
        | succ j =>
          rw [hg, Tb.get_n_succ, Tb.get_n_succ]
          by_cases h : j % 2 = 0
          · rw [Tb.pick_even h, Tb.pick_even h, if_neg (by omega)]
          · rw [Tb.pick_odd h, Tb.pick_odd h, hr]
            by_cases e : j = i
            · subst e; simp
            · rw [if_neg (by omega), if_neg (by omega)]

theorem Tree.holds_mono {α : Type} {L L' : α → Prop} (h : ∀ x, L x → L' x) : ∀ t : Tree α, t.holds L → t.holds L'
  | .leaf _, k => h _ k
  | .node _ t f, k => ⟨fun hb => t.holds_mono h (k.1 hb), fun hb => f.holds_mono h (k.2 hb)⟩
  | .req _ t, k => ⟨k.1, t.holds_mono h k.2⟩
  | .fail _, k => k

theorem Canon.of {slots : List SV} {boxes : List (Option Box)} : ∃ fr m, Canon slots boxes fr m := by
  have hS : ∀ (l : List SV) (t : Tb SV) (i : Nat), ∃ t' : Tb SV, ∀ k, t'.get k = if i ≤ k ∧ k < i + l.length then l[k - i]? else t.get k := by
    intro l
    induction l with
    | nil => exact fun t i => ⟨t, fun k => by rw [if_neg (by simp)]⟩
    | cons x l ih =>
      intro t i
      obtain ⟨t1, h1⟩ := ih t (i + 1)
      have : ∃ t', TbSet t1 i (some x) t' := tbSet_ex i t1 (some x)
      obtain ⟨t', ht'⟩ := this
      refine ⟨t', fun k => ?_⟩
      rw [ht' k]
      by_cases hk : k = i
      · subst hk; simp
      · rw [if_neg hk, h1 k]
        by_cases h2 : i + 1 ≤ k ∧ k < i + 1 + l.length
        · rw [if_pos h2, if_pos (by simp; omega)]
          rw [show k - i = (k - (i + 1)) + 1 by omega]
          simp
        · rw [if_neg h2, if_neg (by simp; omega)]
  have hB : ∀ (l : List (Option Box)) (t : Tb Box) (i : Nat), ∃ t' : Tb Box, ∀ k, t'.get k = if i ≤ k ∧ k < i + l.length then (l[k - i]?).join else t.get k := by
    intro l
    induction l with
    | nil => exact fun t i => ⟨t, fun k => by rw [if_neg (by simp)]⟩
    | cons x l ih =>
      intro t i
      obtain ⟨t1, h1⟩ := ih t (i + 1)
      obtain ⟨t', ht'⟩ := tbSet_ex i t1 x
      refine ⟨t', fun k => ?_⟩
      rw [ht' k]
      by_cases hk : k = i
      · subst hk; simp
      · rw [if_neg hk, h1 k]
        by_cases h2 : i + 1 ≤ k ∧ k < i + 1 + l.length
        · rw [if_pos h2, if_pos (by simp; omega)]
          rw [show k - i = (k - (i + 1)) + 1 by omega]
          simp
        · rw [if_neg h2, if_neg (by simp; omega)]
  obtain ⟨t, ht⟩ := hS slots .e 0
  obtain ⟨u, hu⟩ := hB boxes .e 0
  refine ⟨⟨slots.length, t⟩, ⟨boxes.length, u⟩, ⟨rfl, fun k => ?_, rfl, fun k => ?_⟩⟩
  · unfold Fr.get
    rw [ht k, List.getD_eq_getElem?_getD]
    by_cases h : k < slots.length
    · rw [if_pos (by omega)]; simp [h]
    · rw [if_neg (by omega)]
      rw [Tb.get_e, List.getElem?_eq_none (by omega)]; rfl
  · unfold Mem.get
    rw [hu k]
    by_cases h : k < boxes.length
    · rw [if_pos (by omega)]; simp
    · rw [if_neg (by omega)]
      rw [Tb.get_e, List.getElem?_eq_none (by omega)]; rfl

theorem Canon.swap {slots : List SV} {boxes : List (Option Box)} {fr fr' : Fr} {m m' : Mem} (h : Canon slots boxes fr m) (h' : Canon slots boxes fr' m') {w0 : World} {R0 : Nat → Prop} {ρ : Rho} {w : World} {a : Act} (hs : SRel w0 R0 ρ w fr m a) :
    SRel w0 R0 ρ w fr' m' a ∧ (∀ b, RO w0 R0 ρ w m b ↔ RO w0 R0 ρ w m' b) := by
  have hg : ∀ id, m'.get id = m.get id := fun id => by rw [h.box, h'.box]
  have hn : m'.next = m.next := by rw [h.next, h'.next]
  have hro : RO w0 R0 ρ w m' = RO w0 R0 ρ w m := by
    funext b
    unfold RO
    simp only [hg]
  obtain ⟨h1, h2, h3⟩ := hs
  refine ⟨⟨⟨h1.below, fun id B hB => ?_, fun id B hB => h1.lo id B (by rw [← hg]; exact hB), fun id B hB => h1.hi id B (by rw [← hg]; exact hB), fun id id' B B' hB hB' => h1.inj id id' B B' (by rw [← hg]; exact hB) (by rw [← hg]; exact hB'), fun id B hB => ?_⟩, ⟨?_, fun t => ?_⟩, h3⟩, fun b => by rw [hro]⟩
  · rw [hn]; exact h1.lt id B (by rw [← hg]; exact hB)
  · rw [hro, hn]; exact h1.box id B (by rw [← hg]; exact hB)
  · rw [h'.size, ← h.size]; exact h2.1
  · rw [hro, hn, h'.get, ← h.get]; exact h2.2 t

theorem Reach.swap {P : Program} {items : List Item} {slots : List SV} {boxes : List (Option Box)} {fr fr' : Fr} {m m' : Mem} {out : Out} (h : Canon slots boxes fr m) (h' : Canon slots boxes fr' m') (hr : Reach P items fr' m' out) : Reach P items fr m out := by
  intro w0 R0 ρ w a hs b cs
  obtain ⟨k1, k2⟩ := h.swap h' hs
  have hn : m'.next = m.next := by rw [h.next, h'.next]
  have := hr w0 R0 ρ w a k1 b cs
  cases out with
  | ret p fr2 m2 =>
    obtain ⟨ρ2, w2, a2, todo, g1, g2, g3⟩ := this
    exact ⟨ρ2, w2, a2, todo, g1, ⟨by rw [← hn]; exact g2.le, fun id hid => g2.same id (by rw [hn]; exact hid), fun b hb => g2.keep b ((k2 b).mp hb)⟩, g3⟩
  | stop it fr2 m2 =>
    obtain ⟨ρ2, w2, a2, g1, g2, g3⟩ := this
    exact ⟨ρ2, w2, a2, g1, ⟨by rw [← hn]; exact g2.le, fun id hid => g2.same id (by rw [hn]; exact hid), fun b hb => g2.keep b ((k2 b).mp hb)⟩, g3⟩

/-- One segment: to the end, or to a state from which the code comes to its end. -/
theorem runs_seg {P : Program} {E : Env} (hK : Known P E) {n : Nat} {fn : Func} {keep : List Item → List Bool × List Bool} {items : List Item} {p : Plan} {slots : List SV} {boxes : List (Option Box)} {v : SV}
    (h : (seg E n fn keep items p slots boxes).holds fun o => match o with
      | .done v' => v' = v
      | .at items' size slots' boxes' => slots'.length = size ∧ boxes.length ≤ boxes'.length ∧ underL boxes'.length slots' = true ∧ underO boxes'.length boxes' = true ∧ Runs P fn v items' slots' boxes') : Runs P fn v items slots boxes := by
  intro fr0 m0 hc0
  unfold seg at h
  obtain ⟨fr, h1, h2, h3, h4⟩ := make_holds h
  obtain ⟨m, h5, h6, h7, h8⟩ := memFill_holds boxes ⟨0, .e⟩ _ h1 fun id _ => rfl
  have hc : Canon slots boxes fr m := ⟨h2, h4, by rw [h6]; simp, fun id => by simpa using h8 id⟩
  obtain ⟨out, h9, h10⟩ := exec_ok hK.e hK.s hK.mix n _ _ _ _ _ _ h5
  cases out with
  | ret p' fr' m' =>
    dsimp only at h9
    obtain ⟨v', k1, k2⟩ := results_holds hK.e h9
    obtain rfl : v' = v := k1
    exact ⟨p', fr', m', h10.swap hc0 hc, k2⟩
  | stop items' fr' m' =>
    dsimp only at h9
    have h10 : Reach P items fr m (.stop (enter items') fr' m') := by
      refine h10.trans ?_
      unfold enter
      split
      · exact Reach.step fun b a cs w _ => step_loop
      · exact Reach.step fun b a cs w _ => step_inLoop
      · exact Reach.refl _ _ _
    obtain ⟨k1, k2, k3, k4, k5⟩ := h9
    obtain ⟨fr2, m2, hc2⟩ := Canon.of (slots := viewS fr' (keep items').1 0) (boxes := viewM m' (keep items').2 0)
    obtain ⟨p', fr3, m3, g1, g2⟩ := k5 fr2 m2 hc2
    refine ⟨p', fr3, m3, Reach.swap hc0 hc (Reach.trans (Reach.weaken h10 hc2 ?_ (fun i x hx => by simpa using viewS_get fr' _ 0 i x hx) (fun i B hB => by simpa using viewM_get m' _ 0 i B hB) k3 k4 (by rw [hc.next]; exact k2)) g1), g2⟩
    exact k1

/-- Descent: from every state that keeps the law, the code comes to its end. -/
theorem runs_of {P : Program} {E : Env} (hK : Known P E) {n : Nat} {fn : Func} {v : SV} {σ : Type} (inv : σ → Prop) (μ : σ → Nat) (keep : List Item → List Bool × List Bool) (it : σ → List Item) (sl : σ → List SV) (bx : σ → List (Option Box)) (pl : σ → Plan)
    (h : ∀ s, inv s → (seg E n fn keep (it s) (pl s) (sl s) (bx s)).holds fun o => match o with
      | .done v' => v' = v
      | .at items' size slots' boxes' => ∃ s', inv s' ∧ μ s' < μ s ∧ items' = it s' ∧ slots' = sl s' ∧ boxes' = bx s' ∧ (sl s').length = size ∧ (bx s).length ≤ (bx s').length ∧ underL (bx s').length (sl s') = true ∧ underO (bx s').length (bx s') = true) :
    ∀ s, inv s → Runs P fn v (it s) (sl s) (bx s) := by
  have : ∀ k s, μ s < k → inv s → Runs P fn v (it s) (sl s) (bx s) := by
    intro k
    induction k with
    | zero => exact fun s hk => absurd hk (Nat.not_lt_zero _)
    | succ k ih =>
      intro s hk hs
      refine runs_seg hK (E := E) (n := n) (keep := keep) (p := pl s) (Tree.holds_mono (fun o ho => ?_) _ (h s hs))
      cases o with
      | done v' => exact ho
      | «at» items' size slots' boxes' =>
        obtain ⟨s', a1, a2, rfl, rfl, rfl, a6, a7, a8, a9⟩ := ho
        exact ⟨a6, a7, a8, a9, ih s' (by omega) a1⟩
  exact fun s hs => this _ s (Nat.lt_succ_self _) hs

theorem pad_get (l : List SV) (k t : Nat) : (l ++ List.replicate k SV.undef).getD t .undef = l.getD t .undef := by
  simp only [List.getD_eq_getElem?_getD]
  by_cases h : t < l.length
  · rw [List.getElem?_append_left h]
  · rw [List.getElem?_append_right (by omega), List.getElem?_eq_none (l := l) (by omega)]
    cases hx : (List.replicate k SV.undef)[t - l.length]? with
    | none => rfl
    | some x =>
      have := List.eq_of_mem_replicate (List.mem_of_getElem? hx)
      subst this; rfl

theorem scall_of_runs {P : Program} {f : FuncId} {fn : Func} {body : Code} {args : List SV} {v : SV} (hf : P.funcs[f]? = some fn) (hb : fn.body = some body) (hn : (fn.name == "runtime.NumGoroutine") = false) (hd : dataL args = true) (hvd : v.data = true)
    (hl : args.length ≤ fn.ntmps) (h : Runs P fn v [.code body] (args ++ List.replicate (fn.ntmps - args.length) .undef) []) : SCall P f args v := by
  intro m w0 R0 ρ w vs hm hvs
  obtain ⟨fr, mc0, hc⟩ := Canon.of (slots := args ++ List.replicate (fn.ntmps - args.length) .undef) (boxes := [])
  have hc' : Canon (args ++ List.replicate (fn.ntmps - args.length) .undef) [] fr ⟨0, .e⟩ := ⟨hc.size, hc.get, rfl, fun id => rfl⟩
  obtain ⟨p', fr', mc, h6, h8⟩ := h fr ⟨0, .e⟩ hc'
  rw [callFunc_enter hf hb hn]
  obtain ⟨o1, o2⟩ := own_mem hm ρ
  have hfr := frame_rel (size := fn.ntmps) (by rw [hc.size]; simp; omega) (.inr hl) (fun t => by rw [hc.get, pad_get]) (RepL.data (R' := RO w (RO w0 R0 ρ w m) ρ w ⟨0, .e⟩) (ρ' := ρ) (n' := 0) o2 args vs hd hvs)
  refine Calls.mono (calls_of_reach hf hb h6 h8 o1 hfr) fun e w' ⟨u, he, ρ', g1, g2, g3⟩ => ⟨u, he, ?_⟩
  have hst := Hand.start hm g1
  obtain ⟨k1, k2⟩ := hst.finish hm g1
  exact ⟨ρ, k1, k2, Rep.data (fun b hb => hst.ro b (.inr hb)) v u hvd g3⟩

/-- A whole call: its own first segment, then descent. -/
theorem scall_loops {P : Program} {f : FuncId} {args : List SV} {v : SV} (hd : dataL args = true) (hvd : v.data = true)
    (hf : (match P.funcs[f]? with
      | some fn => fn.body.isSome && !(fn.name == "runtime.NumGoroutine") && Nat.ble args.length fn.ntmps
      | none => false) = true)
    (h : Runs P (fnOf P f) v [.code (bodyOf P f)] (args ++ List.replicate ((fnOf P f).ntmps - args.length) .undef) []) : SCall P f args v := by
  unfold fnOf bodyOf at h
  unfold fnOf at h
  cases hx : P.funcs[f]? with
  | none => rw [hx] at hf; cases hf
  | some fn =>
    rw [hx] at hf h
    dsimp only at hf h
    simp only [Bool.and_eq_true, Bool.not_eq_true'] at hf
    obtain ⟨⟨h1, h2⟩, h3⟩ := hf
    obtain ⟨body, hb⟩ := Option.isSome_iff_exists.mp h1
    rw [hb] at h
    exact scall_of_runs hx hb h2 hd hvd (Nat.le_of_ble_eq_true h3) h
end Go.Sx
