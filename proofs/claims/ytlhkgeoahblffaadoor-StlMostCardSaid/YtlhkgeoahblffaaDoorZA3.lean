/-
  Sx10: lengths, the least and the greatest, what is built and made, ranges over strings, new variables.
  Sx11: one operation; the operations of a region in their order.
  Sx12: frames; the operations of a region in the order of the text, and in whatever order the tape picks.
  SX 26: names of boxes that are not mentioned; a new variable whose name was kept for it.
  Sx13: a region of quiet operations, in whatever order the tape picks: one walk of the text's order serves every order.
-/
import Derived.Test.YtlhkgeoahblffaaDoorZA2
import Derived.Great.FillDense
set_option linter.unusedSimpArgs false
set_option linter.unusedVariables false
namespace Go.Sx
open Go.RowKit
section
variable {P : Program} {E : Env} {α : Type} {L : α → Prop}

theorem lenOf_run {m : Mem} {x : SV} {n : Nat} (h : lenOf m x = some n) {m2 : Mem} (hsh : Shape m m2) {w0 : World} {R0 : Nat → Prop} {ρ : Rho} {w : World} {xv : Value} (hm : MRel w0 R0 ρ w m2) (hx : Rep (RO w0 R0 ρ w m2) ρ m2.next w x xv) :
    ∃ a c, xv = .slice a n c := by
  cases x <;> simp only [lenOf] at h <;> try (cases h; done)
  case nilS => injection h with h; subst h; exact ⟨_, _, hx⟩
  case list t l =>
    injection h with h; subst h
    obtain ⟨A, cap, hxv, _⟩ := hx
    injection hxv with hxv
    exact ⟨_, _, hxv⟩
  case row id =>
    split at h
    · rename_i t l hg
      injection h with h; subst h
      obtain ⟨hid, a, rfl, _⟩ := hx
      obtain ⟨B', hg2, hl⟩ := hsh id _ hg
      cases B' <;> try exact hl.elim
      obtain ⟨rfl, hll⟩ := hl
      obtain ⟨b1, _⟩ := hm.box id _ hg2
      rw [← hll] at b1
      exact ⟨a, (ρ id).2.2, by rw [b1]⟩
    · cases h
  case arr id off k => injection h with h; subst h; exact ⟨_, _, hx.2⟩

theorem opLen_sound (hE : EOK P E) {t : TypeId} {x : SV} {p : Plan} {m : Mem} {κ : Kont α} (h : (opLen E t x p m κ).holds L) :
    ∃ v, (κ v p m).holds L ∧ ∀ m2, Shape m m2 → ∀ (ts : Array TypeId) ty w0 R0 ρ w (xv : Value), ts[0]? = some t → MRel w0 R0 ρ w m2 → Rep (RO w0 R0 ρ w m2) ρ m2.next w x xv → Plainly P m2 v (Builtin.len_ ts ty #[xv]) w0 R0 ρ w := by
  unfold opLen at h
  split at h
  · rename_i r hr
    have hu := (hE.row _ _ hr).und
    split at h
    · rename_i n e hd
      rw [hd] at hu
      refine ⟨_, h, fun m2 hsh ts ty w0 R0 ρ w xv ht hm hx => ⟨_, ?_, rfl⟩⟩
      cases xv <;> simp [Builtin.len_, ht, run_underlying hu, goInt]
    · rename_i hd
      rw [hd] at hu
      split at h
      · rename_i s
        refine ⟨_, h, fun m2 hsh ts ty w0 R0 ρ w xv ht hm hx => ⟨_, ?_, rfl⟩⟩
        rw [show xv = _ from hx]
        simp only [Builtin.len_, ht, Array.getElem?_eq_getElem (show 0 < (#[Value.string ⟨⟨s⟩⟩]).size by simp), Sem.run_bind, run_underlying hu, Result.andThen_ok]
        rfl
      · exact h.elim
    · rename_i e hd
      rw [hd] at hu
      split at h
      · rename_i n hn
        refine ⟨_, h, fun m2 hsh ts ty w0 R0 ρ w xv ht hm hx => ⟨_, ?_, rfl⟩⟩
        obtain ⟨a, c, rfl⟩ := lenOf_run hn hsh hm hx
        simp [Builtin.len_, ht, run_underlying hu, goInt]
      · exact h.elim
    · exact h.elim
  · exact h.elim

theorem maxAll_run {R : Nat → Prop} {ρ : Rho} {n : Nat} {w : World} : ∀ (vs : List SV) (x v : SV) (us : List Value) (u : Value), maxAll x vs = some v → Rep R ρ n w x u → RepL R ρ n w vs us → ∃ y, (us.foldlM Builtin.max2 u).run P w = .ok y w ∧ Rep R ρ n w v y
  | [], x, v, us, u, h, hx, hv => by
    rw [show us = [] from hv]
    simp only [maxAll] at h; injection h with h; subst h
    exact ⟨u, rfl, hx⟩
  | y :: vs, x, v, us, u, h, hx, hv => by
    obtain ⟨b, bs, rfl, h1, h2⟩ := hv
    unfold maxAll at h
    split at h
    · rename_i heq; cases heq
    · rename_i heq
      injection heq with e1 e2
      subst e1 e2
      rw [show u = _ from hx, show b = _ from h1]
      obtain ⟨z, h3, h4⟩ := maxAll_run vs _ v bs _ h rfl h2
      exact ⟨z, by simp only [List.foldlM_cons, Builtin.max2, pure_bind]; exact h3, h4⟩
    · cases h
theorem minAll_run {R : Nat → Prop} {ρ : Rho} {n : Nat} {w : World} : ∀ (vs : List SV) (x v : SV) (us : List Value) (u : Value), minAll x vs = some v → Rep R ρ n w x u → RepL R ρ n w vs us → ∃ y, (us.foldlM Builtin.min2 u).run P w = .ok y w ∧ Rep R ρ n w v y
  | [], x, v, us, u, h, hx, hv => by
    rw [show us = [] from hv]
    simp only [minAll] at h; injection h with h; subst h
    exact ⟨u, rfl, hx⟩
  | y :: vs, x, v, us, u, h, hx, hv => by
    obtain ⟨b, bs, rfl, h1, h2⟩ := hv
    unfold minAll at h
    split at h
    · rename_i heq; cases heq
    · rename_i heq
      injection heq with e1 e2
      subst e1 e2
      rw [show u = _ from hx, show b = _ from h1]
      obtain ⟨z, h3, h4⟩ := minAll_run vs _ v bs _ h rfl h2
      exact ⟨z, by simp only [List.foldlM_cons, Builtin.min2, pure_bind]; exact h3, h4⟩
    · cases h

theorem opBuiltin_sound (hE : EOK P E) {b : Builtin} {ts : List TypeId} {vs : List SV} {p : Plan} {m : Mem} {κ : Kont α} (h : (opBuiltin E b ts vs p m κ).holds L) :
    ∃ v p' m', (κ v p' m').holds L ∧ (b ≠ .append → m' = m) ∧ (b = .len → ∀ m2, Shape m m2 → ∀ ty cs w0 R0 ρ w (us : List Value), MRel w0 R0 ρ w m2 → RepL (RO w0 R0 ρ w m2) ρ m2.next w vs us →
      ∃ u w', (Go.builtin b ts.toArray ty cs us.toArray).run P w = .ok (.value u) w' ∧ OpOut w0 R0 ρ w m2 v m2 u w') ∧ ∀ ty cs w0 R0 ρ w (us : List Value), MRel w0 R0 ρ w m → RepL (RO w0 R0 ρ w m) ρ m.next w vs us →
      ∃ u w', (Go.builtin b ts.toArray ty cs us.toArray).run P w = .ok (.value u) w' ∧ OpOut w0 R0 ρ w m v m' u w' := by
  unfold opBuiltin at h
  split at h
  · rename_i t x
    obtain ⟨v, h1, h2⟩ := opLen_sound hE h
    have key : ∀ m2, Shape m m2 → ∀ ty (cs : Array Bool) w0 R0 ρ w (us : List Value), MRel w0 R0 ρ w m2 → RepL (RO w0 R0 ρ w m2) ρ m2.next w [x] us →
      ∃ u w', (Go.builtin .len [t].toArray ty cs us.toArray).run P w = .ok (.value u) w' ∧ OpOut w0 R0 ρ w m2 v m2 u w' := ?key
    exact ⟨v, p, m, h1, fun _ => rfl, fun _ m2 hsh ty cs => key m2 hsh ty cs, fun ty cs => key m (Shape.refl m) ty cs⟩
    intro m2 hsh ty cs w0 R0 ρ w us hm hus
    obtain ⟨u, us', rfl, h3, h4⟩ := hus
    rw [show us' = [] from h4]
    obtain ⟨y, h5, h6⟩ := h2 m2 hsh [t].toArray ty w0 R0 ρ w u (by simp) hm h3
    have h5' : (Builtin.len_ #[t] ty #[u]).run P w = .ok y w := h5
    exact ⟨y, w, by simp [Go.builtin, h5'], OpOut.same hm h6⟩
  · rename_i t t1 s x
    have key : ∀ (hE1 : (∃ e', P.underlying t1 = some (.slice e')) ∨ P.underlying t1 = some .string), (opAppend E t s x p m κ).holds L → ∃ v p' m', (κ v p' m').holds L ∧ (Builtin.append ≠ .append → m' = m) ∧ (Builtin.append = .len → ∀ m2, Shape m m2 → ∀ ty cs w0 R0 ρ w (us : List Value), MRel w0 R0 ρ w m2 → RepL (RO w0 R0 ρ w m2) ρ m2.next w [s, x] us →
      ∃ u w', (Go.builtin .append [t, t1].toArray ty cs us.toArray).run P w = .ok (.value u) w' ∧ OpOut w0 R0 ρ w m2 v m2 u w') ∧ ∀ ty cs w0 R0 ρ w (us : List Value), MRel w0 R0 ρ w m → RepL (RO w0 R0 ρ w m) ρ m.next w [s, x] us →
      ∃ u w', (Go.builtin .append [t, t1].toArray ty cs us.toArray).run P w = .ok (.value u) w' ∧ OpOut w0 R0 ρ w m v m' u w' := by
      intro hE1 h
      obtain ⟨v, p', m', h1, h2⟩ := opAppend_sound hE h
      refine ⟨v, p', m', h1, fun hn => absurd rfl hn, (fun hn => by cases hn), fun ty cs w0 R0 ρ w us hm hus => ?_⟩
      obtain ⟨u, us', rfl, h3, y, us2, rfl, h4, h5⟩ := hus
      rw [show us2 = [] from h5]
      obtain ⟨z, w', h6, h7⟩ := h2 [t, t1].toArray ty w0 R0 ρ w u y (fun e he => ⟨by simp, t1, by simp, hE1⟩) hm h3 h4
      have h6' : (Builtin.append_ #[t, t1] ty #[u, y]).run P w = .ok z w' := h6
      exact ⟨z, w', by simp [Go.builtin, h6'], h7⟩
    split at h
    · rename_i e sz by_ ze ty eg he hr
      exact key (.inl ⟨e, (hE.row _ _ hr).und⟩) h
    · rename_i sz by_ ze ty eg he hr
      exact key (.inr (hE.row _ _ hr).und) h
    · exact h.elim
  · rename_i v vs
    split at h
    · rename_i y hy
      refine ⟨y, p, m, h, fun _ => rfl, (fun hn => by cases hn), fun ty cs w0 R0 ρ w us hm hus => ?_⟩
      obtain ⟨u, us', rfl, h3, h4⟩ := hus
      obtain ⟨z, h5, h6⟩ := maxAll_run (P := P) vs v y us' u hy h3 h4
      exact ⟨z, w, by simp [Go.builtin, Builtin.max_, h5], OpOut.same hm h6⟩
    · exact h.elim
  · rename_i v vs
    split at h
    · rename_i y hy
      refine ⟨y, p, m, h, fun _ => rfl, (fun hn => by cases hn), fun ty cs w0 R0 ρ w us hm hus => ?_⟩
      obtain ⟨u, us', rfl, h3, h4⟩ := hus
      obtain ⟨z, h5, h6⟩ := minAll_run (P := P) vs v y us' u hy h3 h4
      exact ⟨z, w, by simp [Go.builtin, Builtin.min_, h5], OpOut.same hm h6⟩
    · exact h.elim
  · exact h.elim

/-! ### Structs, arrays and slices that are written out -/

theorem fill_over (cells : Array Value) (off : Nat) (vs : Array Value) (h : off + vs.toList.length ≤ cells.size) : vs.zipIdx.foldl (fun cs (c, j) => cs.setIfInBounds (off + j) c) cells = overA cells off vs.toList := by
  rw [← Array.foldl_toList, Array.toList_zipIdx]
  obtain ⟨h1, h2⟩ := Great.foldl_set off vs.toList 0 cells
  apply Array.ext_getElem?
  intro k
  rw [overA_get h]
  have := h2 k
  simp only [Nat.add_zero] at this
  rw [this]
  by_cases hk : off ≤ k ∧ k < off + vs.toList.length
  · rw [if_pos ⟨hk.1, hk.2, by omega⟩, if_pos hk]
  · rw [if_neg (fun h => hk ⟨h.1, h.2.1⟩), if_neg hk]

/-- Parts with their places. -/
def PR (R : Nat → Prop) (ρ : Rho) (n : Nat) (w : World) : List (Nat × SV) → List (Nat × Value) → Prop
  | [], vs => vs = []
  | x :: xs, vs => ∃ u us, vs = (x.1, u) :: us ∧ Rep R ρ n w x.2 u ∧ PR R ρ n w xs us

theorem PR.map {R : Nat → Prop} {ρ : Rho} {n : Nat} {w : World} (ev : Operand → SV) (eb : Operand → Value) : ∀ xs : List (Nat × Operand), (∀ x ∈ xs, Rep R ρ n w (ev x.2) (eb x.2)) → PR R ρ n w (xs.map fun x => (x.1, ev x.2)) (xs.map fun x => (x.1, eb x.2))
  | [], _ => rfl
  | x :: xs, h => ⟨_, _, rfl, h x List.mem_cons_self, PR.map ev eb xs fun y hy => h y (List.mem_cons_of_mem _ hy)⟩

theorem fillK_holds (place : Nat → Option (Nat × Nat)) : ∀ (parts : List (Nat × SV)) (cs : List SV) (k : List SV → Tree α), (fillK place cs parts k).holds L →
    ∃ cs', (k cs').holds L ∧ ∀ (R : Nat → Prop) (ρ : Rho) (n : Nat) (w : World) (vs : List (Nat × Value)) (arr : Array Value), PR R ρ n w parts vs → RepL R ρ n w cs arr.toList → ∃ arr', Instr.fill place arr vs = some arr' ∧ RepL R ρ n w cs' arr'.toList
  | [], cs, k, h => ⟨cs, h, fun R ρ n w vs arr hv hc => by rw [show vs = [] from hv]; exact ⟨arr, rfl, hc⟩⟩
  | x :: parts, cs, k, h => by
    change (match place x.1 with
      | some os => match os.2 == x.2.cells.length && all1 x.2.cells && Nat.ble 1 os.2 with
        | true => overK cs os.1 x.2.cells fun cs => fillK place cs parts k
        | false => .fail 94
      | none => .fail 95 : Tree α).holds L at h
    split at h
    · rename_i os hos
      split at h
      · rename_i hsz
        simp only [Bool.and_eq_true, beq_iff_eq, Nat.ble_eq] at hsz
        obtain ⟨⟨hs1, hs2⟩, hs3⟩ := hsz
        rcases overK_holds _ _ _ _ h with ⟨h0, _⟩ | ⟨h0, h1⟩
        · rw [h0] at hs1; simp at hs1; omega
        obtain ⟨cs', h3, h4⟩ := fillK_holds place parts _ k h1
        refine ⟨cs', h3, fun R ρ n w vs arr hv hc => ?_⟩
        obtain ⟨u, us, rfl, h5, h6⟩ := hv
        obtain ⟨h7, h8⟩ := h5.cells hs2
        have hl := h7.length
        have hal := hc.length
        have hfit : os.1 + u.cells.toList.length ≤ arr.size := by
          rw [hl]; rw [Array.length_toList] at hal; omega
        have e1 : u.cells.size = os.2 := by rw [hs1, ← hl]; simp
        have e2 : ¬ os.1 + u.cells.size > arr.size := by rw [Array.length_toList] at hfit; omega
        have e3 : ¬ os.1 + os.2 > arr.size := by rw [← e1]; exact e2
        simp only [Instr.fill, hos, e1, ne_eq, not_true_eq_false, decide_false, Bool.false_or, e3, Bool.false_eq_true, if_false]
        rw [fill_over _ _ _ hfit]
        exact h4 R ρ n w us _ h6 (over_rep hc h7)
      · exact h.elim
    · exact h.elim

theorem placesOf_run (hE : EOK P E) (w : World) : ∀ (fs : List Field) (pl : List (Nat × Nat)), placesOf E fs = some pl → (fs.mapM (fun f => do pure (f.offset, ← sizeOf f.type)) : Sem (List (Nat × Nat))).run P w = .ok pl w
  | [], pl, h => by
    have : some [] = some pl := h
    injection this with this; subst this; rfl
  | f :: fs, pl, h => by
    change (match E.row f.type, placesOf E fs with
      | some r, some l => some ((f.offset, r.size) :: l)
      | _, _ => none) = some pl at h
    split at h
    · rename_i r l hr hl
      injection h with h; subst h
      simp only [List.mapM_cons, Sem.run_bind, run_sizeOf' (hE.row _ _ hr), Result.andThen_ok, Sem.run_pure, placesOf_run hE w fs l hl]
    · cases h

theorem opBuild_sound (hE : EOK P E) {t : TypeId} {parts : List (Nat × SV)} {p : Plan} {m : Mem} {κ : Kont α} (h : (opBuild E t parts p m κ).holds L) :
    ∃ v, (κ v p m).holds L ∧ ∀ (m : Mem) w0 R0 ρ w (vs : List (Nat × Value)), PR (RO w0 R0 ρ w m) ρ m.next w parts vs → Plainly P m v (Instr.build t vs.toArray) w0 R0 ρ w := by
  unfold opBuild at h
  split at h
  · rename_i r hr
    have hok := hE.row _ _ hr
    have hu := hok.und
    obtain ⟨z, hz1, hz2, _⟩ := run_zero' hok
    split at h
    · rename_i fs hd
      rw [hd] at hu
      split at h
      · rename_i pl hpl
        obtain ⟨cs', h1, h2⟩ := fillK_holds _ _ _ _ h
        refine ⟨_, h1, fun m w0 R0 ρ w vs hv => ?_⟩
        obtain ⟨arr', h3, h4⟩ := h2 _ _ _ _ _ z.cells hv (hz2 _ _ _ _)
        have hp := placesOf_run hE w fs.toList pl hpl
        have hpl' : ∀ i, (pl.toArray[i]? : Option (Nat × Nat)) = nth pl i := fun i => by rw [nth_eq]; simp
        refine ⟨.agg arr', ?_, _, rfl, h4⟩
        simp only [Instr.build, Sem.run_bind, hz1, Result.andThen_ok, run_underlying hu]
        rw [Array.mapM_eq_mapM_toList, Sem.run_map, hp]
        simp only [Result.andThen_ok, hpl']
        rw [h3]; rfl
      · exact h.elim
    · rename_i n e hd
      rw [hd] at hu
      split at h
      · rename_i re hre
        obtain ⟨cs', h1, h2⟩ := fillK_holds _ _ _ _ h
        refine ⟨_, h1, fun m w0 R0 ρ w vs hv => ?_⟩
        obtain ⟨arr', h3, h4⟩ := h2 _ _ _ _ _ z.cells hv (hz2 _ _ _ _)
        refine ⟨.agg arr', ?_, _, rfl, h4⟩
        simp only [Instr.build, Sem.run_bind, hz1, Result.andThen_ok, run_underlying hu, run_sizeOf' (hE.row _ _ hre)]
        rw [h3]; rfl
      · exact h.elim
    · exact h.elim
  · exact h.elim

theorem repeat_rep {R : Nat → Prop} {ρ : Rho} {n : Nat} {w : World} {z : List SV} {zs : List Value} (h : RepL R ρ n w z zs) : ∀ k, RepL R ρ n w (repeatL z k) ((List.range (k * zs.length)).map fun i => zs.getD (i % zs.length) default)
  | 0 => by simp [repeatL, RepL]
  | k + 1 => by
    have ih := repeat_rep h k
    rcases Nat.eq_zero_or_pos zs.length with h0 | h0
    · have hz : z = [] := List.eq_nil_of_length_eq_zero (by rw [← h.length]; exact h0)
      have : ∀ j, repeatL z j = [] := by
        intro j; induction j with
        | zero => rfl
        | succ j ih => simp [repeatL, hz] at ih ⊢; exact ih
      rw [this, h0]; simp [RepL]
    · have e : (List.range ((k + 1) * zs.length)).map (fun i => zs.getD (i % zs.length) default) = zs ++ (List.range (k * zs.length)).map fun i => zs.getD (i % zs.length) default := by
        rw [Nat.succ_mul, Nat.add_comm, List.range_add, List.map_append, List.map_map]
        congr 1
        · apply List.ext_getElem?
          intro j
          by_cases hj : j < zs.length
          · simp [hj, Nat.mod_eq_of_lt hj]
          · simp [hj]
        · apply List.map_congr_left
          intro j _
          simp
      rw [e]
      exact h.append ih

theorem opBuildSlice_sound (hE : EOK P E) {t : TypeId} {n : Nat} {parts : List (Nat × SV)} {p : Plan} {m : Mem} {κ : Kont α} (h : (opBuildSlice E t n parts p m κ).holds L) :
    ∃ v m', (κ v p m').holds L ∧ ∀ w0 R0 ρ w (vs : List (Nat × Value)), MRel w0 R0 ρ w m → PR (RO w0 R0 ρ w m) ρ m.next w parts vs → Yields' P m v m' (Instr.buildSlice t n vs.toArray) w0 R0 ρ w := by
  unfold opBuildSlice at h
  split at h
  · rename_i e sz by_ ze ty eg he hr
    have hu := (hE.row _ _ hr).und
    dsimp only at hu
    split at h
    · rename_i re hre
      have hok := hE.row _ _ hre
      obtain ⟨z, hz1, hz2, _⟩ := run_zero' hok
      split at h
      · rename_i hs
        simp only [Bool.and_eq_true, decide_eq_true_eq] at hs
        obtain ⟨cs', h1, h2⟩ := fillK_holds _ _ _ _ h
        obtain ⟨m', h3, h4⟩ := Mem.push_holds h1
        refine ⟨_, m', h4, fun w0 R0 ρ w vs hm hv => ?_⟩
        have hzl : z.cells.toList.length = re.size := by
          rw [(hz2 (RO w0 R0 ρ w m) ρ m.next w).length]; exact hs.2
        have hrep := repeat_rep (hz2 (RO w0 R0 ρ w m) ρ m.next w) n
        -- the zero cells
        have hzero : ∃ zs : Array Value, ((n * re.size = 0 ∧ zs = #[]) ∨ (¬ n * re.size = 0 ∧ zs = z.cells)) ∧ ((Array.range (n * re.size)).map (zs[· % zs.size]!)).toList = (List.range (n * z.cells.toList.length)).map fun i => z.cells.toList.getD (i % z.cells.toList.length) default := by
          by_cases h0 : n * re.size = 0
          · refine ⟨#[], .inl ⟨h0, rfl⟩, ?_⟩
            rw [hzl, h0]; simp
          · refine ⟨z.cells, .inr ⟨h0, rfl⟩, ?_⟩
            rw [hzl]
            have hsz : z.cells.size = re.size := by rw [← hzl]; simp
            simp only [Array.toList_map, Array.toList_range]
            apply List.map_congr_left
            intro i _
            rw [hsz]
            have : re.size ≠ 0 := fun hc => h0 (by rw [hc]; simp)
            have hi : i % re.size < z.cells.size := by rw [hsz]; exact Nat.mod_lt _ (by omega)
            simp [List.getD, getElem!_pos, hi]
        obtain ⟨zs, q1, q2⟩ := hzero
        obtain ⟨arr', h5, h6⟩ := h2 _ _ _ _ _ ((Array.range (n * re.size)).map (zs[· % zs.size]!)) hv (by rw [q2]; exact hrep)
        obtain ⟨g1, g2⟩ := hm.alloc (o := .cells arr' e) h3 n n (fun R n' ρ' e' => ⟨arr', e, (0, 0), heap_alloc_new w _, unfrozen_zero _, RepL.mono e' _ _ h6⟩)
        refine ⟨.slice (some ⟨w.heap.size, 0, none⟩) n n, w.alloc (.cells arr' e), ?_, _, g1, g2, by rw [h3.2]; omega, by rw [upd_same]⟩
        have hbig : ¬ n * re.size > 2 ^ 24 := by have := hs.1; omega
        simp only [Instr.buildSlice, Sem.run_bind, run_underlying hu, Result.andThen_ok, run_sizeOf' hok, hbig, if_false, pure_bind]
        rcases q1 with ⟨h0, rfl⟩ | ⟨h0, rfl⟩
        · rw [if_pos h0, h5]
          simp [newRow]
        · rw [if_neg h0]
          simp only [Sem.run_bind, hz1, Result.andThen_ok]
          rw [h5]
          simp [newRow]
      · exact h.elim
    · exact h.elim
  · exact h.elim

theorem opMakeSlice_sound (hE : EOK P E) {t : TypeId} {len cap : SV} {p : Plan} {m : Mem} {κ : Kont α} (h : (opMakeSlice E t len cap p m κ).holds L) :
    ∃ v m', (κ v p m').holds L ∧ ∀ w0 R0 ρ w (lv cv : Value), MRel w0 R0 ρ w m → Rep (RO w0 R0 ρ w m) ρ m.next w len lv → Rep (RO w0 R0 ρ w m) ρ m.next w cap cv → Yields' P m v m' (Instr.makeSlice t lv cv) w0 R0 ρ w := by
  unfold opMakeSlice at h
  split at h
  · rename_i n c
    split at h
    · rename_i e sz by_ ze ty eg he hr
      have hu := (hE.row _ _ hr).und
      dsimp only at hu
      split at h
      · rename_i de size bytes ze' u eg' he' hre
        have hok := hE.row _ _ hre
        obtain ⟨z, hz1, hz2, hz3⟩ := run_zero' hok
        obtain ⟨i, hi, hib, his⟩ := run_typeInfo' hok
        split at h
        · rename_i hs
          have hs' : size = u.sz := by simpa using hs
          obtain ⟨hb, h⟩ := h
          simp only [Bool.and_eq_true, decide_eq_true_eq, beq_iff_eq] at hb
          obtain ⟨⟨⟨hb1, hb2⟩, hb3⟩, hb4⟩ := hb
          obtain ⟨m', h1, h2⟩ := Mem.push_holds h
          refine ⟨_, m', h2, fun w0 R0 ρ w lv cv hm hl hc => ?_⟩
          rw [show lv = _ from hl, show cv = _ from hc, ← hb2]
          have hw : IntKind.i64.wrap n = n := by
            unfold IntKind.wrap
            simp only [IntKind.signed, IntKind.bits]
            have : n % (2 ^ 64 : Int) = n := Int.emod_eq_of_lt hb1 (by omega)
            simp only [this]
            rw [if_neg (by simp; omega)]
          have hzl := (RepD.flat (ρ := ρ) (n := 0) u u.dflt _ (hz3 u rfl (fun _ => True) w)).1
          have hzs : z.cells.size = size := by rw [hs']; simpa using hzl
          have hdl : ∀ k, RepDL (RO w0 R0 ρ w m) w u (List.replicate k u.dflt) ((List.range (k * size)).map fun i => z.cells.toList.getD (i % size) default) := by
            intro k
            refine Elems.repDL (by simp [hs']) fun i hi' => ?_
            rw [List.length_replicate] at hi'
            refine ⟨z.cells.toList, hzl, fun j hj => ?_, by simpa using hz3 u rfl _ _⟩
            have hlt : i * u.sz + j < k * size := by
              have : (i + 1) * u.sz ≤ k * size := by rw [hs']; exact Nat.mul_le_mul_right _ hi'
              rw [Nat.succ_mul] at this; omega
            have hmod : (i * u.sz + j) % size = j := by
              rw [hs', Nat.mul_comm, Nat.mul_add_mod]; exact Nat.mod_eq_of_lt hj
            dsimp only
            rw [List.getElem?_map, List.getElem?_range hlt, Option.map_some, hmod]
            have hjl : j < z.cells.toList.length := by omega
            rw [List.getD_eq_getElem?_getD, List.getElem?_eq_getElem hjl]
            rfl
          have hzero : ∃ zs : Array Value, ((n.toNat * size = 0 ∧ zs = #[]) ∨ (¬ n.toNat * size = 0 ∧ zs = z.cells)) ∧ ((Array.range (n.toNat * size)).map (zs[· % zs.size]!)).toList = (List.range (n.toNat * size)).map fun i => z.cells.toList.getD (i % size) default := by
            by_cases h0 : n.toNat * size = 0
            · refine ⟨#[], .inl ⟨h0, rfl⟩, ?_⟩
              rw [h0]; simp
            · refine ⟨z.cells, .inr ⟨h0, rfl⟩, ?_⟩
              simp only [Array.toList_map, Array.toList_range]
              apply List.map_congr_left
              intro k _
              rw [hzs]
              have : size ≠ 0 := fun hc => h0 (by rw [hc]; simp)
              have hk : k % size < z.cells.size := by rw [hzs]; exact Nat.mod_lt _ (by omega)
              simp [List.getD, getElem!_pos, hk]
          obtain ⟨zs, q1, q2⟩ := hzero
          have hkey := push_rows (u := u) (l := List.replicate n.toNat u.dflt) (cap := n.toNat) (vs := (List.range (n.toNat * size)).map fun i => z.cells.toList.getD (i % size) default) (rest := [])
            (w1 := w.alloc (.cells ((Array.range (n.toNat * size)).map (zs[· % zs.size]!)) e)) hm h1 rfl rfl rfl (by simp) (fun k hk => Below.heap_alloc w _ k hk) (heap_alloc_new w _) ⟨unfrozen_zero _, fun h => hok.el (.inl (congrArg some h)) (by subst h; exact hs')⟩ (by simp [hs']) (by simp) (by rw [q2]; simp) (hdl _)
          refine ⟨_, _, ?_, by simpa using hkey⟩
          have t1 : ¬ n < 0 := by omega
          have t2 : ¬ (281474976710656 < (i.bytes : Int) * n) := by
            have e1 : (i.bytes : Int) = (bytes : Int) := by rw [hib]
            rw [e1]; omega
          have hsr := run_sizeOf' hok
          dsimp only at hsr
          simp only [Instr.makeSlice, Sem.run_bind, run_underlying hu, Result.andThen_ok, asInt, asIntOf, Sem.run_pure, hi, hw]
          rw [if_neg (by simp; omega)]
          simp only [Sem.run_bind, run_askRoom, Result.andThen_ok, hsr, pure_bind]
          rcases q1 with ⟨h0, rfl⟩ | ⟨h0, rfl⟩
          · rw [if_pos h0]
            simp [newRow]
          · rw [if_neg h0]
            simp only [Sem.run_bind, hz1, Result.andThen_ok]
            simp [newRow]
        · exact h.elim
      · exact h.elim
    · exact h.elim
  · exact h.elim

/-! ### Ranges over strings -/

theorem opRange_sound {x : SV} {p : Plan} {m : Mem} {κ : Kont α} (h : (opRange x p m κ).holds L) :
    ∃ v m', (κ v p m').holds L ∧ ∀ t w0 R0 ρ w (xv : Value), P.underlying t = some .string → MRel w0 R0 ρ w m → Rep (RO w0 R0 ρ w m) ρ m.next w x xv → Yields' P m v m' (Instr.range t xv) w0 R0 ρ w := by
  unfold opRange at h
  split at h
  · rename_i s
    obtain ⟨m', h1, h2⟩ := Mem.push_holds h
    refine ⟨_, m', h2, fun t w0 R0 ρ w xv hu hm hx => ?_⟩
    rw [show xv = _ from hx]
    obtain ⟨g1, g2⟩ := hm.alloc (o := .stringIter ⟨⟨s⟩⟩ 0) h1 0 0 (fun R n' ρ' e' => heap_alloc_new w _)
    refine ⟨.pointer (some ⟨w.heap.size, 0, none⟩), _, ?_, _, g1, g2, by rw [h1.2]; omega, by rw [upd_same]⟩
    simp [Instr.range, run_underlying hu]
  · exact h.elim

theorem opNext_sound {x : SV} {p : Plan} {m : Mem} {κ : Kont α} (h : (opNext x p m κ).holds L) :
    ∃ v p' m', (κ v p' m').holds L ∧ ∀ t w0 R0 ρ w (xv : Value), MRel w0 R0 ρ w m → Rep (RO w0 R0 ρ w m) ρ m.next w x xv → Yields' P m v m' (Instr.next xv true t) w0 R0 ρ w := by
  unfold opNext at h
  split at h
  · rename_i id
    split at h
    · rename_i s pos hg
      obtain ⟨p', h⟩ := dec_holds h
      have hb : ∀ w0 R0 ρ w, MRel w0 R0 ρ w m → w.heap[(ρ id).1]? = some (.stringIter ⟨⟨s⟩⟩ pos) := fun w0 R0 ρ w hm => hm.box id _ hg
      by_cases hlt : pos < s.length
      · rw [decide_eq_true hlt] at h
        dsimp only at h
        obtain ⟨m', h1, h2⟩ := Mem.set_holds h
        refine ⟨_, p', m', h2, fun t w0 R0 ρ w xv hm hx => ?_⟩
        obtain ⟨hid, rfl⟩ := hx
        have hh := hb w0 R0 ρ w hm
        have hsz : (ByteArray.mk ⟨s⟩).size = s.length := rfl
        have hlb : (ρ id).1 < w.heap.size := hm.hi id _ hg trivial
        refine ⟨.tuple #[.bool true, .int .i64 pos, .int .i32 (Utf8.decode ⟨⟨s⟩⟩ pos).1], { w with heap := w.heap.setIfInBounds (ρ id).1 (.stringIter ⟨⟨s⟩⟩ (pos + (Utf8.decode ⟨⟨s⟩⟩ pos).2)) }, ?_, ρ, ?_⟩
        · simp only [Instr.next, Sem.run_bind, getObj, Sem.run, hh, Result.andThen_ok, hsz, hlt, if_true, setObj, goInt]
          rfl
        · obtain ⟨g1, g2⟩ := hm.setBox (w' := { w with heap := w.heap.setIfInBounds (ρ id).1 (.stringIter ⟨⟨s⟩⟩ (pos + (Utf8.decode ⟨⟨s⟩⟩ pos).2)) }) hg trivial h1 rfl rfl rfl (by simp) (fun k hk => by simp [Array.getElem?_setIfInBounds, Ne.symm hk]) (fun R e' => by simp [BoxRel, Array.getElem?_setIfInBounds, hlb])
          exact ⟨g1, g2, _, rfl, _, _, rfl, rfl, _, _, rfl, rfl, _, _, rfl, rfl, rfl⟩
      · rw [decide_eq_false hlt] at h
        dsimp only at h
        refine ⟨_, p', m, h, fun t w0 R0 ρ w xv hm hx => ?_⟩
        obtain ⟨hid, rfl⟩ := hx
        have hh := hb w0 R0 ρ w hm
        have hsz : (ByteArray.mk ⟨s⟩).size = s.length := rfl
        refine Plainly.yields ⟨.tuple #[.bool false], ?_, _, rfl, _, _, rfl, rfl, rfl⟩ hm
        simp only [Instr.next, Sem.run_bind, getObj, Sem.run, hh, Result.andThen_ok, hsz, hlt, if_false]
        rfl
    · exact h.elim
  · exact h.elim
end
end Go.Sx
set_option linter.unusedSimpArgs false
set_option linter.unusedVariables false
namespace Go.Sx
open Go.RowKit
section
variable {P : Program} {E : Env} {α : Type}

/-- What an operation of the model hands on. -/
def OpPost (P : Program) (Φ : Value → World → Prop) : Result Next → Prop
  | .ok (.value v) w => Φ v w
  | .ok .skip w => Φ Go.undef w
  | .ok (.enter f args) w => Calls P f args w fun e w' => ∃ v, e = .returned v ∧ Φ v w'
  | _ => False

theorem OpPost.mono {Φ Ψ : Value → World → Prop} (h : ∀ v w, Φ v w → Ψ v w) : ∀ {r : Result Next}, OpPost P Φ r → OpPost P Ψ r
  | .ok (.value v) w, k => h v w k
  | .ok .skip w, k => h _ w k
  | .ok (.enter f args) w, k => Calls.mono k fun e w' ⟨v, he, hv⟩ => ⟨v, he, h v w' hv⟩

/-- An operation, by its values: whatever the world. -/
def SemOp (P : Program) (m : Mem) (v : SV) (m' : Mem) (o : Oper) (ev : Operand → SV) : Prop :=
  ∀ w0 R0 ρ w (eb : Operand → Value), MRel w0 R0 ρ w m → (∀ x ∈ o.op.operands, Rep (RO w0 R0 ρ w m) ρ m.next w (ev x) (eb x)) → OpPost P (OpOut w0 R0 ρ w m v m') ((Go.execOp eb o).run P w)

/-- A call, by its values. -/
def SemCall (P : Program) (m : Mem) (v : SV) (m' : Mem) (f : FuncId) (args : List SV) : Prop :=
  ∀ w0 R0 ρ w (vs : List Value), MRel w0 R0 ρ w m → RepL (RO w0 R0 ρ w m) ρ m.next w args vs → OpPost P (OpOut w0 R0 ρ w m v m') ((Go.callFunc f vs.toArray).run P w)

/-- What is asked of the handler of calls (Q: nothing of the memory turns). -/
def CallOK (P : Program) (Q : Bool) (call : CallK α) : Prop :=
  ∀ f args p m (κ : Kont α) (L : α → Prop), (call f args p m κ).holds L → ∃ v p' m', (κ v p' m').holds L ∧ (Q = true → m' = m ∧ ∀ m2, SemCall P m2 v m2 f args) ∧ SemCall P m v m' f args

theorem post_value {Φ : Value → World → Prop} {s : Sem Value} {w : World} {u : Value} {w' : World} (h : s.run P w = .ok u w') (hΦ : Φ u w') : OpPost P Φ ((do pure (Next.value (← s)) : Sem Next).run P w) := by
  simp only [Sem.run_bind, h, Result.andThen_ok, Sem.run_pure]; exact hΦ

theorem ofLeaf_rep (v : Value) (R : Nat → Prop) (ρ : Rho) (n : Nat) (w : World) : Rep R ρ n w (ofLeaf v) v := by
  unfold ofLeaf
  split <;> rfl
theorem ofLeafs_rep (R : Nat → Prop) (ρ : Rho) (n : Nat) (w : World) : ∀ vs : List Value, RepL R ρ n w (vs.map ofLeaf) vs
  | [] => rfl
  | v :: vs => ⟨v, vs, rfl, ofLeaf_rep v R ρ n w, ofLeafs_rep R ρ n w vs⟩
theorem ofVal_rep (v : Value) (R : Nat → Prop) (ρ : Rho) (n : Nat) (w : World) : Rep R ρ n w (ofVal v) v := by
  unfold ofVal
  split
  · rename_i cs
    exact ⟨cs.toList, rfl, ofLeafs_rep R ρ n w _⟩
  · rename_i f a c
    split
    · rename_i ha hc
      refine ⟨[], [], ?_, rfl, rfl⟩
      have h1 : a = #[] := by apply Array.ext'; simpa using ha
      have h2 : c = #[] := by apply Array.ext'; simpa using hc
      rw [h1, h2]
    · rfl
  · exact ofLeaf_rep _ R ρ n w

theorem svLeaf_rep {R : Nat → Prop} {ρ : Rho} {n : Nat} {w : World} : ∀ {x : SV} {v u : Value}, svLeaf x = some v → Rep R ρ n w x u → u = v
  | .int _ _, _, _, h, hr => by injection h with h; subst h; exact hr
  | .bool _, _, _, h, hr => by injection h with h; subst h; exact hr
  | .str _, _, _, h, hr => by injection h with h; subst h; exact hr
theorem svLeaves_rep {R : Nat → Prop} {ρ : Rho} {n : Nat} {w : World} : ∀ {xs : List SV} {vs us : List Value}, svLeaves xs = some vs → RepL R ρ n w xs us → us = vs
  | [], _, _, h, hr => by injection h with h; subst h; exact hr
  | x :: xs, vs, us, h, hr => by
    obtain ⟨u, us', rfl, h1, h2⟩ := hr
    unfold svLeaves at h
    split at h
    · rename_i v vs' e1 e2
      injection h with h; subst h
      rw [svLeaf_rep e1 h1, svLeaves_rep e2 h2]
    · cases h
theorem svVal_rep {R : Nat → Prop} {ρ : Rho} {n : Nat} {w : World} {x : SV} {v u : Value} (h : svVal x = some v) (hr : Rep R ρ n w x u) : u = v := by
  unfold svVal at h
  split at h
  · rename_i cs
    split at h
    · rename_i vs e
      injection h with h; subst h
      obtain ⟨us, rfl, h2⟩ := hr
      rw [svLeaves_rep e h2]
    · cases h
  · exact svLeaf_rep h hr

theorem clash {b : Bool} {p : Prop} (h : b = false) (k : b = true) : p := by rw [h] at k; cases k
/-- What more is known of one operation: where else it does the same, and what it leaves of the memory. -/
structure Extra (P : Program) (Q : Bool) (m : Mem) (v : SV) (m' : Mem) (o : Oper) (ev : Operand → SV) : Prop where
  pure : pureOp o.op = true → ∀ m2, SemOp P m2 v m2 o ev
  shape : shapeOp o.op = true → ∀ m2, Shape m m2 → SemOp P m2 v m2 o ev
  up : Q = true → upOp o.op = true → ∀ m2, Up m m2 → SemOp P m2 v m2 o ev
  store : isStore o.op = true → Shape m m' ∧ Shape m' m
  alloc : isAlloc o.op = true → m.get m.next = none → Up m m'

theorem Extra.ofPure {P : Program} {Q : Bool} {m : Mem} {v : SV} {o : Oper} {ev : Operand → SV} (h1 : shapeOp o.op = false) (h2 : upOp o.op = false) (h3 : isStore o.op = false) (h4 : isAlloc o.op = false) (h : ∀ m2, SemOp P m2 v m2 o ev) : SemOp P m v m o ev ∧ Extra P Q m v m o ev :=
  ⟨h m, fun _ => h, fun k => clash h1 k, fun _ k => clash h2 k, fun k => clash h3 k, fun k => clash h4 k⟩
theorem Extra.none {P : Program} {Q : Bool} {m m' : Mem} {v : SV} {o : Oper} {ev : Operand → SV} (h0 : pureOp o.op = false) (h1 : shapeOp o.op = false) (h2 : upOp o.op = false) (h3 : isStore o.op = false) (h4 : isAlloc o.op = false) : Extra P Q m v m' o ev :=
  ⟨fun k => clash h0 k, fun k => clash h1 k, fun _ k => clash h2 k, fun k => clash h3 k, fun k => clash h4 k⟩
theorem Extra.ofShape {P : Program} {Q : Bool} {m : Mem} {v : SV} {o : Oper} {ev : Operand → SV} (h1 : pureOp o.op = false) (h2 : upOp o.op = false) (h3 : isStore o.op = false) (h4 : isAlloc o.op = false) (h : ∀ m2, Shape m m2 → SemOp P m2 v m2 o ev) : SemOp P m v m o ev ∧ Extra P Q m v m o ev :=
  ⟨h m (Shape.refl m), fun k => clash h1 k, fun _ => h, fun _ k => clash h2 k, fun k => clash h3 k, fun k => clash h4 k⟩
theorem Extra.ofUp {P : Program} {Q : Bool} {m : Mem} {v : SV} {o : Oper} {ev : Operand → SV} (h1 : pureOp o.op = false) (h2 : shapeOp o.op = false) (h3 : isStore o.op = false) (h4 : isAlloc o.op = false) (h : ∀ m2, Up m m2 → SemOp P m2 v m2 o ev) : SemOp P m v m o ev ∧ Extra P Q m v m o ev :=
  ⟨h m (Up.refl m), fun k => clash h1 k, fun k => clash h2 k, fun _ _ => h, fun k => clash h3 k, fun k => clash h4 k⟩

theorem run_typeAssert_nil {P : Program} {xt t : TypeId} {d : TypeDesc} {z : Value} {w : World} (hu : P.underlying t = some d) (hi : isIface d = false) (hz : ∀ w, (zeroValue t).run P w = .ok z w) : (Instr.typeAssert .nilIface xt t true).run P w = .ok (.tuple #[z, .bool false]) w := by
  unfold Instr.typeAssert
  rw [Sem.run_bind, run_underlying hu, Result.andThen_ok]
  cases d <;> first | (cases hi; done) | (show Sem.run P (do let z ← zeroValue t; pure (Value.tuple #[z, .bool false])) w = _; rw [Sem.run_bind, hz, Result.andThen_ok, Sem.run_pure])
theorem run_typeAssert_is {P : Program} {xt t : TypeId} {d : TypeDesc} {v : Value} {w : World} (hu : P.underlying t = some d) (hi : isIface d = false) : (Instr.typeAssert (.iface t v) xt t true).run P w = .ok (.tuple #[v, .bool true]) w := by
  unfold Instr.typeAssert
  rw [Sem.run_bind, run_underlying hu, Result.andThen_ok]
  cases d <;> first | (cases hi; done) | (show Sem.run P (if t = t then pure (Value.tuple #[v, .bool true]) else _) w = _; rw [if_pos rfl, Sem.run_pure])

theorem execOp_sound (hE : EOK P E) {Q : Bool} {call : CallK α} (hcall : CallOK P Q call) {ev : Operand → SV} {o : Oper} {p : Plan} {m : Mem} {κ : Kont α} {L : α → Prop} (h : (execOp E call ev o.op p m κ).holds L) :
    ∃ v p' m', (κ v p' m').holds L ∧ (Q = true → quiet E o.op = true → m' = m) ∧ (SemOp P m v m' o ev ∧ Extra P Q m v m' o ev) := by
  obtain ⟨dst, op, ty, pos, after, guard⟩ := o
  cases op <;> dsimp only [execOp] at h <;> try exact h.elim
  case move x =>
    rw [frc_eq] at h
    exact ⟨_, p, m, h, fun _ _ => rfl, Extra.ofPure rfl rfl rfl rfl fun m2 w0 R0 ρ w eb hm hev => OpOut.same hm (hev x (by simp [Op.operands, Call.operands]))⟩
  case assign x =>
    rw [frc_eq] at h
    exact ⟨_, p, m, h, fun _ _ => rfl, Extra.ofPure rfl rfl rfl rfl fun m2 w0 R0 ρ w eb hm hev => OpOut.same hm (hev x (by simp [Op.operands, Call.operands]))⟩
  case pick c a b =>
    split at h
    · rename_i cb hc
      obtain ⟨p', h⟩ := dec_holds h
      rw [frc_eq] at h
      refine ⟨_, p', m, h, fun _ _ => rfl, Extra.ofPure rfl rfl rfl rfl fun m2 w0 R0 ρ w eb hm hev => ?_⟩
      have h1 := hev c (by simp [Op.operands, Call.operands])
      rw [hc] at h1
      have h1' : eb c = .bool cb := h1
      simp only [Go.execOp, h1', asBool, pure_bind, Sem.run_pure]
      refine OpOut.same hm ?_
      cases cb
      · exact hev b (by simp [Op.operands, Call.operands])
      · exact hev a (by simp [Op.operands, Call.operands])
    · exact h.elim
  case alloc t =>
    split at h
    · rename_i r hr
      split at h
      · rw [frcL_eq] at h
        obtain ⟨m', h1, h2⟩ := Mem.push_holds h
        have hok := hE.row _ _ hr
        obtain ⟨z, hz1, hz2, _⟩ := run_zero' hok
        refine ⟨_, p, m', h2, fun _ hq => (by cases hq), ⟨fun w0 R0 ρ w eb hm hev => ?_, ⟨(fun k => by cases k), (fun k => by cases k), (fun _ k => by cases k), (fun k => by cases k), fun _ hn => h1.up hn⟩⟩⟩
        obtain ⟨g1, g2⟩ := hm.alloc (o := .cells z.cells t) h1 0 0 (fun R n' ρ' e' => ⟨_, heap_alloc_new w _, hz2 _ _ _ _⟩)
        refine post_value (u := .pointer (some ⟨w.heap.size, 0, none⟩)) (w' := w.alloc (.cells z.cells t)) ?_ ⟨_, g1, g2, by rw [h1.2]; omega, by rw [upd_same]⟩
        simp [Instr.alloc, hz1, newVar, newRow]
      · rw [frcL_eq] at h
        obtain ⟨m', h1, h2⟩ := Mem.push_holds h
        have hok := hE.row _ _ hr
        obtain ⟨z, hz1, hz2, _⟩ := run_zero' hok
        refine ⟨_, p, m', h2, fun _ hq => (by cases hq), ⟨fun w0 R0 ρ w eb hm hev => ?_, ⟨(fun k => by cases k), (fun k => by cases k), (fun _ k => by cases k), (fun k => by cases k), fun _ hn => h1.up hn⟩⟩⟩
        obtain ⟨g1, g2⟩ := hm.alloc (o := .cells z.cells t) h1 0 0 (fun R n' ρ' e' => ⟨_, t, (0, 0), heap_alloc_new w _, unfrozen_zero _, hz2 _ _ _ _⟩)
        refine post_value (u := .pointer (some ⟨w.heap.size, 0, none⟩)) (w' := w.alloc (.cells z.cells t)) ?_ ⟨_, g1, g2, by rw [h1.2]; omega, by rw [upd_same]⟩
        simp [Instr.alloc, hz1, newVar, newRow]
    · exact h.elim
  case box t x =>
    split at h
    · rename_i hone
      rw [frcL_eq] at h
      obtain ⟨m', h1, h2⟩ := Mem.push_holds h
      refine ⟨_, p, m', h2, fun _ hq => (by cases hq), ⟨fun w0 R0 ρ w eb hm hev => ?_, Extra.none rfl rfl rfl rfl rfl⟩⟩
      obtain ⟨k1, k2⟩ := (hev x (by simp [Op.operands, Call.operands])).cells hone
      obtain ⟨g1, g2⟩ := hm.alloc (o := .cells (eb x).cells t) h1 0 0 (fun R n' ρ' e' => ⟨_, t, (0, 0), heap_alloc_new w _, unfrozen_zero _, RepL.mono e' _ _ k1⟩)
      refine post_value (u := .pointer (some ⟨w.heap.size, 0, none⟩)) (w' := w.alloc (.cells (eb x).cells t)) ?_ ⟨_, g1, g2, by rw [h1.2]; omega, by rw [upd_same]⟩
      simp [Instr.box, newVar, newRow]
    · exact h.elim
  case build t parts =>
    obtain ⟨v, h1, h2⟩ := opBuild_sound hE h
    refine ⟨v, p, m, h1, fun _ _ => rfl, Extra.ofPure rfl rfl rfl rfl fun m2 w0 R0 ρ w eb hm hev => ?_⟩
    obtain ⟨u, h3, h4⟩ := h2 m2 w0 R0 ρ w (parts.toList.map fun x => (x.1, eb x.2)) (PR.map ev eb _ fun x hx => hev x.2 (by simp only [Op.operands]; simpa using ⟨x.1, by simpa using hx⟩))
    refine post_value (u := u) (w' := w) ?_ (OpOut.same hm h4)
    rw [← h3]
    congr 2
    apply Array.ext'; simp
  case buildSlice t n parts =>
    obtain ⟨v, m', h1, h2⟩ := opBuildSlice_sound hE h
    refine ⟨v, p, m', h1, fun _ hq => (by cases hq), ⟨fun w0 R0 ρ w eb hm hev => ?_, Extra.none rfl rfl rfl rfl rfl⟩⟩
    obtain ⟨u, w', h3, h4⟩ := h2 w0 R0 ρ w (parts.toList.map fun x => (x.1, eb x.2)) hm (PR.map ev eb _ fun x hx => hev x.2 (by simp only [Op.operands]; simpa using ⟨x.1, by simpa using hx⟩))
    refine post_value (u := u) (w' := w') ?_ h4
    rw [← h3]
    congr 2
    apply Array.ext'; simp
  case load t a =>
    obtain ⟨v, h1, h2⟩ := opLoad_sound hE h
    refine ⟨v, p, m, h1, fun _ _ => rfl, Extra.ofUp rfl rfl rfl rfl fun m2 hup w0 R0 ρ w eb hm hev => ?_⟩
    obtain ⟨u, h3, h4⟩ := h2 m2 hup w0 R0 ρ w _ hm (hev a (by simp [Op.operands, Call.operands]))
    exact post_value h3 (OpOut.same hm h4)
  case store t a x =>
    obtain ⟨m', h1, hsh, h2⟩ := opStore_sound hE h
    refine ⟨_, p, m', h1, fun _ hq => (by cases hq), ⟨fun w0 R0 ρ w eb hm hev => ?_, ⟨(fun k => by cases k), (fun k => by cases k), (fun _ k => by cases k), fun _ => hsh, (fun k => by cases k)⟩⟩⟩
    obtain ⟨w', h3, h4, h5⟩ := h2 w0 R0 ρ w _ _ hm (hev a (by simp [Op.operands, Call.operands])) (hev x (by simp [Op.operands, Call.operands]))
    simp only [Go.execOp, Sem.run_bind, h3, Result.andThen_ok, Sem.run_pure]
    exact ⟨ρ, h4, h5, rfl⟩
  case nilCheck x =>
    split at h <;> first
      | exact h.elim
      | (rename_i heq
         refine ⟨_, p, m, h, fun _ _ => rfl, Extra.ofPure rfl rfl rfl rfl fun m2 w0 R0 ρ w eb hm hev => ?_⟩
         have h1 := hev x (by simp [Op.operands, Call.operands])
         rw [heq] at h1
         first
           | (obtain ⟨_, h2⟩ := h1
              have h3 := hev x (by simp [Op.operands, Call.operands])
              rw [heq] at h3
              simp only [Go.execOp, h2, Sem.run_pure]
              rw [h2] at h3
              exact OpOut.same hm h3)
           | (obtain ⟨b, o, h2, h4⟩ := h1
              have h3 := hev x (by simp [Op.operands, Call.operands])
              rw [heq] at h3
              simp only [Go.execOp, h2, Sem.run_pure]
              rw [h2] at h3
              exact OpOut.same hm h3))
  case binOp op t x y ty' =>
    obtain ⟨v, h1, h2⟩ := opBin_sound hE h
    refine ⟨v, p, m, h1, fun _ _ => rfl, Extra.ofPure rfl rfl rfl rfl fun m2 w0 R0 ρ w eb hm hev => ?_⟩
    obtain ⟨u, h3, h4⟩ := h2 m2 w0 R0 ρ w _ _ x y (hev x (by simp [Op.operands, Call.operands])) (hev y (by simp [Op.operands, Call.operands]))
    exact post_value h3 (OpOut.same hm h4)
  case unOp op t x =>
    obtain ⟨v, h1, h2⟩ := opUn_sound (P := P) h
    refine ⟨v, p, m, h1, fun _ _ => rfl, Extra.ofPure rfl rfl rfl rfl fun m2 w0 R0 ρ w eb hm hev => ?_⟩
    obtain ⟨u, h3, h4⟩ := h2 m2 w0 R0 ρ w _ (hev x (by simp [Op.operands, Call.operands]))
    exact post_value h3 (OpOut.same hm h4)
  case convert s d x =>
    obtain ⟨v, m', h1, hq', h2⟩ := opConv_sound hE h
    refine ⟨v, p, m', h1, fun _ hq => hq' fun r e hr hd => ?_, ⟨fun w0 R0 ρ w eb hm hev => ?_, Extra.none rfl rfl rfl rfl rfl⟩⟩
    · simp only [quiet, hr] at hq
      obtain ⟨de, sz, by_, ze, ty', eg, he⟩ := r
      dsimp only at hd
      subst hd
      cases hq
    · obtain ⟨u, w', h3, h4⟩ := h2 w0 R0 ρ w _ hm (hev x (by simp [Op.operands, Call.operands]))
      exact post_value h3 h4
  case makeFunc fn first cap =>
    cases fn <;> try exact h.elim
    case func f =>
      refine ⟨_, p, m, h, fun _ _ => rfl, Extra.ofPure rfl rfl rfl rfl fun m2 w0 R0 ρ w eb hm hev => ?_⟩
      refine post_value (u := .func (.func f) (first.map eb) (cap.map eb)) (w' := w) (by rfl) (OpOut.same hm ⟨first.toList.map eb, cap.toList.map eb, ?_, RepL.map ev eb _ (fun x hx => hev x (by simp [Op.operands] at hx ⊢; simp [hx])), RepL.map ev eb _ fun x hx => hev x (by simp [Op.operands] at hx ⊢; simp [hx])⟩)
      congr 1 <;> (apply Array.ext'; simp)
  case makeSlice t l c =>
    obtain ⟨v, m', h1, h2⟩ := opMakeSlice_sound hE h
    refine ⟨v, p, m', h1, fun _ hq => (by cases hq), ⟨fun w0 R0 ρ w eb hm hev => ?_, Extra.none rfl rfl rfl rfl rfl⟩⟩
    obtain ⟨u, w', h3, h4⟩ := h2 w0 R0 ρ w _ _ hm (hev l (by simp [Op.operands, Call.operands])) (hev c (by simp [Op.operands, Call.operands]))
    exact post_value h3 h4
  case slice t x lo hi mx =>
    obtain ⟨v, m', h1, hq', h2⟩ := opSlice_sound hE h
    refine ⟨v, p, m', h1, fun _ hq => hq' (by cases mx with | none => rfl | some _ => cases hq), ⟨fun w0 R0 ρ w eb hm hev => ?_, Extra.none rfl rfl rfl rfl rfl⟩⟩
    have ho : ∀ y : Option Operand, (∀ z, y = some z → z ∈ (Op.slice t x lo hi mx).operands) → OptRep (RO w0 R0 ρ w m) ρ m.next w (y.map ev) (y.map eb) := fun y hy => by
      cases y with
      | none => trivial
      | some y => exact hev y (hy y rfl)
    obtain ⟨u, w', h3, h4⟩ := h2 w0 R0 ρ w _ (lo.map eb) (hi.map eb) (mx.map eb) hm (hev x (by simp [Op.operands, Call.operands])) (ho lo fun z hz => by simp [Op.operands, hz]) (ho hi fun z hz => by simp [Op.operands, hz]) (ho mx fun z hz => by simp [Op.operands, hz])
    exact post_value h3 h4
  case fieldAddr s x f =>
    obtain ⟨v, h1, h2⟩ := opFieldAddr_sound hE h
    refine ⟨v, p, m, h1, fun _ _ => rfl, Extra.ofPure rfl rfl rfl rfl fun m2 w0 R0 ρ w eb hm hev => ?_⟩
    obtain ⟨u, h3, h4⟩ := h2 m2 w0 R0 ρ w _ (hev x (by simp [Op.operands, Call.operands]))
    exact post_value h3 (OpOut.same hm h4)
  case field s x f =>
    obtain ⟨v, h1, h2⟩ := opField_sound hE h
    refine ⟨v, p, m, h1, fun _ _ => rfl, Extra.ofPure rfl rfl rfl rfl fun m2 w0 R0 ρ w eb hm hev => ?_⟩
    obtain ⟨u, h3, h4⟩ := h2 m2 w0 R0 ρ w _ (hev x (by simp [Op.operands, Call.operands]))
    exact post_value h3 (OpOut.same hm h4)
  case indexAddr t x ix =>
    obtain ⟨v, h1, h2⟩ := opIndexAddr_sound hE h
    refine ⟨v, p, m, h1, fun _ _ => rfl, Extra.ofShape rfl rfl rfl rfl fun m2 hsh w0 R0 ρ w eb hm hev => ?_⟩
    obtain ⟨u, h3, h4⟩ := h2 m2 hsh w0 R0 ρ w _ _ hm (hev x (by simp [Op.operands, Call.operands])) (hev ix (by simp [Op.operands, Call.operands]))
    exact post_value h3 (OpOut.same hm h4)
  case index t x ix =>
    obtain ⟨v, h1, h2⟩ := opIndex_sound hE h
    refine ⟨v, p, m, h1, fun _ _ => rfl, Extra.ofPure rfl rfl rfl rfl fun m2 w0 R0 ρ w eb hm hev => ?_⟩
    obtain ⟨u, h3, h4⟩ := h2 m2 w0 R0 ρ w _ _ (hev x (by simp [Op.operands, Call.operands])) (hev ix (by simp [Op.operands, Call.operands]))
    exact post_value h3 (OpOut.same hm h4)
  case range t x =>
    split at h
    · rename_i sz by_ ze ty' eg he hr
      obtain ⟨v, m', h1, h2⟩ := opRange_sound (P := P) h
      refine ⟨v, p, m', h1, fun _ hq => (by cases hq), ⟨fun w0 R0 ρ w eb hm hev => ?_, Extra.none rfl rfl rfl rfl rfl⟩⟩
      obtain ⟨u, w', h3, h4⟩ := h2 t w0 R0 ρ w _ (hE.row _ _ hr).und hm (hev x (by simp [Op.operands, Call.operands]))
      exact post_value h3 h4
    · exact h.elim
  case next x isString =>
    cases isString with
    | false => exact h.elim
    | true =>
      obtain ⟨v, p', m', h1, h2⟩ := opNext_sound (P := P) h
      refine ⟨v, p', m', h1, fun _ hq => (by cases hq), ⟨fun w0 R0 ρ w eb hm hev => ?_, Extra.none rfl rfl rfl rfl rfl⟩⟩
      obtain ⟨u, w', h3, h4⟩ := h2 ty w0 R0 ρ w _ hm (hev x (by simp [Op.operands, Call.operands]))
      exact post_value h3 h4
  case extract x i =>
    obtain ⟨v, h1, h2⟩ := opExtract_sound (P := P) h
    refine ⟨v, p, m, h1, fun _ _ => rfl, Extra.ofPure rfl rfl rfl rfl fun m2 w0 R0 ρ w eb hm hev => ?_⟩
    obtain ⟨u, h3, h4⟩ := h2 m2 w0 R0 ρ w _ (hev x (by simp [Op.operands, Call.operands]))
    exact post_value h3 (OpOut.same hm h4)
  case makeInterface t x =>
    split at h
    · rename_i r hr
      split at h
      · rename_i hi
        split at h
        · rename_i v hv
          refine ⟨_, p, m, h, fun _ _ => rfl, fun w0 R0 ρ w eb hm hev => ?_, Extra.none rfl rfl rfl rfl rfl⟩
          have h1 := svVal_rep hv (hev x (by simp [Op.operands, Call.operands]))
          have hu := (hE.row _ _ hr).und
          refine post_value (u := .iface t v) (w' := w) ?_ ⟨ρ, hm, Ext.refl _ _ _ _, rfl⟩
          simp only [Instr.makeInterface, Sem.run_bind, run_underlying hu, Result.andThen_ok, h1]
          cases hd : r.desc <;> first | rfl | (rw [hd] at hi; cases hi)
        · exact h.elim
      · exact h.elim
    · exact h.elim
  case typeAssert x xt t ok =>
    cases ok with
    | false => exact h.elim
    | true =>
      dsimp only at h
      split at h
      · rename_i r hr
        have hok := hE.row _ _ hr
        split at h
        · rename_i hi
          split at h
          · rename_i u hx
            split at h
            · split at h
              · rename_i z hzv
                obtain ⟨i, g1, g2⟩ := hE.zv t z hzv
                have hz : ∀ w, (zeroValue t).run P w = .ok z w := fun w => by simp only [zeroValue, typeInfo, Sem.run_bind, run_program, Result.andThen_ok, g1, Sem.run_pure, g2]
                refine ⟨_, p, m, h, fun _ _ => rfl, fun w0 R0 ρ w eb hm hev => ?_, Extra.none rfl rfl rfl rfl rfl⟩
                have h1 : eb x = .nilIface := by have := hev x (by simp [Op.operands, Call.operands]); rw [hx] at this; exact this
                refine post_value (u := .tuple #[z, .bool false]) (w' := w) ?_ ⟨ρ, hm, Ext.refl _ _ _ _, _, rfl, _, _, rfl, ofVal_rep _ _ _ _ _, _, _, rfl, rfl, rfl⟩
                simp only [h1, Sem.run_bind, run_typeAssert_nil hok.und hi hz, Result.andThen_ok, Sem.run_pure]
              · exact h.elim
            · rename_i t' v
              split at h
              · rename_i ht
                have ht := Nat.eq_of_beq_eq_true ht
                subst ht
                refine ⟨_, p, m, h, fun _ _ => rfl, fun w0 R0 ρ w eb hm hev => ?_, Extra.none rfl rfl rfl rfl rfl⟩
                have h1 : eb x = .iface t' v := by have := hev x (by simp [Op.operands, Call.operands]); rw [hx] at this; exact this
                refine post_value (u := .tuple #[v, .bool true]) (w' := w) ?_ ⟨ρ, hm, Ext.refl _ _ _ _, _, rfl, _, _, rfl, ofVal_rep _ _ _ _ _, _, _, rfl, rfl, rfl⟩
                simp only [h1, Sem.run_bind, run_typeAssert_is hok.und hi, Result.andThen_ok, Sem.run_pure]
              · exact h.elim
            · exact h.elim
          · exact h.elim
        · exact h.elim
      · exact h.elim
  case call c =>
    unfold opCall at h
    split at h
    · rename_i b hb
      obtain ⟨v, p', m', h1, hq', hsh, h2⟩ := opBuiltin_sound hE h
      refine ⟨v, p', m', h1, fun _ hq => hq' (fun hb' => by obtain ⟨ca, aa, ta⟩ := c; dsimp only at hb; subst hb hb'; cases hq), ⟨fun w0 R0 ρ w eb hm hev => ?_, ?_⟩⟩
      · have key : ∀ cs, OpPost P (OpOut w0 R0 ρ w m v m') ((Go.builtin b c.argTypes ty cs (c.args.map eb)).run P w) := fun cs => by
          obtain ⟨u, w', h3, h4⟩ := h2 ty cs w0 R0 ρ w (c.args.toList.map eb) hm (RepL.map ev eb _ fun x hx => hev x (by simp [Op.operands, Call.operands] at hx ⊢; simp [hx]))
          have e1 : c.argTypes.toList.toArray = c.argTypes := by simp
          have e2 : (c.args.toList.map eb).toArray = c.args.map eb := by apply Array.ext'; simp
          rw [e1, e2] at h3
          rw [h3]
          exact h4
        simp only [Go.execOp, resolve, hb, pure_bind, invoke]
        exact key _
      · obtain ⟨ca, aa, ta⟩ := c
        dsimp only at hb
        subst hb
        refine ⟨(fun k => by cases k), fun k m2 hsh2 w0 R0 ρ w eb hm hev => ?_, (fun _ k => by cases k), (fun k => by cases k), (fun k => by cases k)⟩
        have hlen : b = .len := by cases b <;> first | rfl | (cases k; done)
        have key : ∀ cs, OpPost P (OpOut w0 R0 ρ w m2 v m2) ((Go.builtin b ta ty cs (aa.map eb)).run P w) := fun cs => by
          obtain ⟨u, w', h3, h4⟩ := hsh hlen m2 hsh2 ty cs w0 R0 ρ w (aa.toList.map eb) hm (RepL.map ev eb _ fun x hx => hev x (by simp [Op.operands, Call.operands] at hx ⊢; simp [hx]))
          have e1 : ta.toList.toArray = ta := by simp
          have e2 : (aa.toList.map eb).toArray = aa.map eb := by apply Array.ext'; simp
          rw [e1, e2] at h3
          rw [h3]
          exact h4
        simp only [Go.execOp, resolve, pure_bind, invoke]
        exact key _
    · rename_i f hf
      split at h
      · rename_i k first cap hk
        obtain ⟨v, p', m', h1, hq', h2⟩ := hcall _ _ _ _ _ _ h
        have key : ∀ m1 m1', SemCall P m1 v m1' k (first ++ (c.args.toList.map ev ++ cap)) → SemOp P m1 v m1' ⟨dst, .call c, ty, pos, after, guard⟩ ev := ?key
        refine ⟨v, p', m', h1, fun hQ _ => (hq' hQ).1, key _ _ h2, ⟨(fun k => by cases k), fun k => ?_, fun hQ _ m2 _ => key _ _ ((hq' hQ).2 m2), (fun k => by cases k), (fun k => by cases k)⟩⟩
        · obtain ⟨ca, aa, ta⟩ := c
          dsimp only at hf
          subst hf
          cases k
        intro m1 m1' h2 w0 R0 ρ w eb hm hev
        have h3 := hev f (by simp [Op.operands, Call.operands, hf])
        rw [hk] at h3
        obtain ⟨vs, us, h4, h5, h6⟩ := h3
        have h7 := h2 w0 R0 ρ w (vs ++ (c.args.toList.map eb ++ us)) hm (h5.append ((RepL.map ev eb _ fun x hx => hev x (by simp [Op.operands, Call.operands] at hx ⊢; simp [hx])).append h6))
        simp only [Go.execOp, resolve, hf, h4, Deferred.ofValue, pure_bind, invoke]
        have e : (vs ++ (c.args.toList.map eb ++ us)).toArray = (⟨vs⟩ : Array Value) ++ c.args.map eb ++ ⟨us⟩ := by apply Array.ext'; simp
        rw [e] at h7
        exact h7
      · exact h.elim
    · exact h.elim

end
end Go.Sx
set_option linter.unusedSimpArgs false
set_option linter.unusedVariables false
namespace Go.Sx
open Go.RowKit
section
variable {P : Program} {E : Env} {α : Type}

def FRel (R : Nat → Prop) (ρ : Rho) (n : Nat) (w : World) (fr : Fr) (tmps : Array Value) : Prop :=
  fr.size = tmps.size ∧ ∀ t, Rep R ρ n w (fr.get t) (tmps.getD t Go.undef)

theorem FRel.mono {R R' : Nat → Prop} {ρ ρ' : Rho} {n n' : Nat} {w w' : World} (e : Ext R ρ n w R' ρ' n' w') {fr : Fr} {tmps : Array Value} (h : FRel R ρ n w fr tmps) : FRel R' ρ' n' w' fr tmps := ⟨h.1, fun t => Rep.mono e _ _ (h.2 t)⟩

/-- One slot turned. -/
def FSet (fr : Fr) (d : Option Tmp) (v : SV) (fr' : Fr) : Prop :=
  fr'.size = fr.size ∧ (∀ t, d = some t → t < fr.size) ∧ ∀ t, fr'.get t = if d = some t then v else fr.get t

theorem Fr.set_holds {fr : Fr} {t : Nat} {v : SV} {k : Fr → Tree α} {L : α → Prop} (h : (fr.set t v k).holds L) : ∃ fr', FSet fr (some t) v fr' ∧ (k fr').holds L := by
  unfold Fr.set at h
  split at h
  · rename_i hlt
    obtain ⟨tb, h1, h2⟩ := holds_setT _ _ _ _ _ h
    refine ⟨⟨fr.size, tb⟩, ⟨rfl, fun u hu => ?_, fun u => ?_⟩, h2⟩
    · injection hu with hu; subst hu; exact Nat.le_of_ble_eq_true hlt
    · unfold Fr.get
      rw [h1 u]
      by_cases hu : u = t
      · subst hu; simp
      · have : ¬ (some t = some u) := fun h => hu (by injection h with h; exact h.symm)
        rw [if_neg hu, if_neg this]
  · exact h.elim

theorem putK_holds {fr : Fr} {d : Option Tmp} {v : SV} {k : Fr → Tree α} {L : α → Prop} (h : (putK fr d v k).holds L) : ∃ fr', FSet fr d v fr' ∧ (k fr').holds L := by
  cases d with
  | none => exact ⟨fr, ⟨rfl, fun t ht => (by cases ht), fun t => by simp⟩, h⟩
  | some t => exact Fr.set_holds h

theorem FRel.put {R : Nat → Prop} {ρ : Rho} {n : Nat} {w : World} {fr fr' : Fr} {a : Act} {d : Option Tmp} {v : SV} {u : Value} (h : FRel R ρ n w fr a.tmps) (hf : FSet fr d v fr') (hv : Rep R ρ n w v u) : FRel R ρ n w fr' (a.put d u).tmps := by
  obtain ⟨f1, f2, f3⟩ := hf
  cases d with
  | none => exact ⟨f1.trans h.1, fun t => by rw [f3 t]; simpa [Act.put] using h.2 t⟩
  | some d =>
    refine ⟨by simp [Act.put, f1, h.1], fun t => ?_⟩
    rw [f3 t]
    have hd : d < a.tmps.size := by rw [← h.1]; exact f2 d rfl
    by_cases ht : d = t
    · subst ht
      simp [Act.put, Array.getElem?_setIfInBounds, hd]; exact hv
    · have : ¬ (some d = some t) := fun e => ht (by injection e)
      rw [if_neg this]
      have h2 := h.2 t
      simpa [Act.put, Array.getElem?_setIfInBounds_ne ht] using h2

theorem FRel.eval {R : Nat → Prop} {ρ : Rho} {n : Nat} {w : World} {fr : Fr} {a : Act} (h : FRel R ρ n w fr a.tmps) (x : Operand) : Rep R ρ n w (evalIn fr x) (a.eval x) := by
  cases x with
  | tmp t => exact h.2 t
  | const v => exact ofVal_rep v _ _ _ _
  | global g => rfl
  | func f => exact ⟨[], [], rfl, rfl, rfl⟩

/-- Whether an operation is wanted, by its guard's slot. -/
def gval (all : List Oper) (get : Nat → SV) (o : Oper) : Option Bool :=
  match o.guard with
  | none => some true
  | some (j, want) => match (all[j]?).bind (·.dst) with
    | some d => match get d with
      | .bool b => some (b == want)
      | .undef => some false
      | _ => none
    | none => none

theorem yielded_of {R : Nat → Prop} {ρ : Rho} {n : Nat} {w : World} {all : List Oper} {get : Nat → SV} {tmps : Array Value} {o : Oper} {g : Bool} (h : ∀ j want d, o.guard = some (j, want) → (all[j]?).bind (·.dst) = some d → Rep R ρ n w (get d) (tmps.getD d Go.undef)) (hg : gval all get o = some g) :
    Region.wanted o (yielded all.toArray tmps) = g := by
  unfold gval at hg
  unfold Region.wanted
  cases ho : o.guard with
  | none => rw [ho] at hg; injection hg
  | some jw =>
    obtain ⟨j, want⟩ := jw
    rw [ho] at hg
    dsimp only at hg ⊢
    cases hd : (all[j]?).bind (·.dst) with
    | none => rw [hd] at hg; cases hg
    | some d =>
      rw [hd] at hg
      dsimp only at hg
      have hr := h j want d ho hd
      have e : yielded all.toArray tmps j = match tmps[d]? with | some (.bool b) => some b | _ => none := by
        unfold yielded
        have : (all.toArray[j]?).bind (·.dst) = some d := by simpa using hd
        rw [this]; rfl
      rw [e]
      split at hg
      · rename_i b hb
        injection hg with hg
        rw [hb] at hr
        have hr' : tmps.getD d Go.undef = .bool b := hr
        have : tmps[d]? = some (.bool b) := by
          rw [Array.getD_eq_getD_getElem?] at hr'
          cases ht : tmps[d]? with
          | none => rw [ht] at hr'; simp [Go.undef] at hr'
          | some x => rw [ht] at hr'; simpa using hr'
        rw [this, ← hg]
        cases b <;> cases want <;> rfl
      · rename_i hb
        injection hg with hg
        rw [hb] at hr
        have hr' : tmps.getD d Go.undef = Go.undef := hr
        have : (match tmps[d]? with | some (.bool b) => some b | _ => none) = (none : Option Bool) := by
          rw [Array.getD_eq_getD_getElem?] at hr'
          cases ht : tmps[d]? with
          | none => rfl
          | some x => rw [ht] at hr'; simp at hr'; subst hr'; rfl
        rw [this, ← hg]
        rfl
      · cases hg

theorem upon_of_post {o : Oper} {a : Act} {K : Act → World → Prop} {Q : Exit → Act → World → Prop} {Φ : Value → World → Prop} (h : ∀ u w', Φ u w' → K (a.put o.dst u) w') : ∀ {r : Result Next}, OpPost P Φ r → o.upon P a K Q r
  | .ok (.value v) w, k => h v w k
  | .ok .skip w, k => h _ w k
  | .ok (.enter f args) w, k => Calls.mono k fun e w' ⟨v, he, hv⟩ => by subst he; exact h v w' hv

/-- One operation of the text. -/
def StepOK (P : Program) (all : List Oper) (o : Oper) (fr : Fr) (m : Mem) (v : SV) (m' : Mem) : Prop :=
  (gval all fr.get o = some true ∧ SemOp P m v m' o (evalIn fr)) ∨ (gval all fr.get o = some false ∧ v = .undef ∧ m' = m)

inductive Chain (P : Program) (all : List Oper) : List Oper → Fr → Mem → Fr → Mem → Prop where
  | nil (fr : Fr) (m : Mem) : Chain P all [] fr m fr m
  | cons {o : Oper} {rest : List Oper} {fr fr1 fr' : Fr} {m m1 m' : Mem} {v : SV} (h : StepOK P all o fr m v m1) (hf : FSet fr o.dst v fr1) (k : Chain P all rest fr1 m1 fr' m') : Chain P all (o :: rest) fr m fr' m'

/-- What more is known of it. -/
structure MoreOK (P : Program) (E : Env) (Q : Bool) (all : List Oper) (o : Oper) (fr : Fr) (m : Mem) (v : SV) (m' : Mem) : Prop where
  quiet : Q = true → quiet E o.op = true → m' = m
  more : gval all fr.get o = some true → Extra P Q m v m' o (evalIn fr)
  store : isStore o.op = true → Shape m m' ∧ Shape m' m
  alloc : isAlloc o.op = true → m.get m.next = none → Up m m'

theorem oneOp_holds (hE : EOK P E) {Q : Bool} {call : CallK α} (hcall : CallOK P Q call) {let_ : Op → Bool} {all : List Oper} {o : Oper} {ih : OpsK α} {p : Plan} {fr : Fr} {m : Mem} {L : α → Prop} (h : (oneOp E let_ call all o ih p fr m).holds L) :
    ∃ p' v fr1 m1, (ih p' fr1 m1).holds L ∧ StepOK P all o fr m v m1 ∧ FSet fr o.dst v fr1 ∧ MoreOK P E Q all o fr m v m1 := by
  have run : ∀ (p : Plan) (fr2 : Fr), (∀ t, fr2.get t = fr.get t) → fr2.size = fr.size → gval all fr.get o = some true → ((match let_ o.op with
      | true => execOp E call (evalIn fr2) o.op p m fun v p m => putK fr2 o.dst v fun fr => ih p fr m
      | false => .fail 133 : Tree α)).holds L → ∃ p' v fr1 m1, (ih p' fr1 m1).holds L ∧ StepOK P all o fr m v m1 ∧ FSet fr o.dst v fr1 ∧ MoreOK P E Q all o fr m v m1 := by
    intro p fr2 hg hs hgv h
    split at h
    · rename_i hlo
      obtain ⟨v, p', m1, h1, h2, h3⟩ := execOp_sound hE hcall h
      obtain ⟨fr1, h4, h5⟩ := putK_holds h1
      have he : evalIn fr2 = evalIn fr := funext fun x => by cases x <;> simp [evalIn, hg]
      rw [he] at h3
      exact ⟨p', v, fr1, m1, h5, .inl ⟨hgv, h3.1⟩, ⟨h4.1.trans hs, fun t ht => by rw [← hs]; exact h4.2.1 t ht, fun t => by rw [h4.2.2 t, hg t]⟩, ⟨h2, fun _ => h3.2, h3.2.store, h3.2.alloc⟩⟩
    · exact h.elim
  have skip : ∀ (p : Plan) (fr2 : Fr), (∀ t, fr2.get t = fr.get t) → fr2.size = fr.size → gval all fr.get o = some false → (putK fr2 o.dst .undef fun fr => ih p fr m).holds L → ∃ p' v fr1 m1, (ih p' fr1 m1).holds L ∧ StepOK P all o fr m v m1 ∧ FSet fr o.dst v fr1 ∧ MoreOK P E Q all o fr m v m1 := by
    intro p fr2 hg hs hgv h
    obtain ⟨fr1, h4, h5⟩ := putK_holds h
    exact ⟨p, .undef, fr1, m, h5, .inr ⟨hgv, rfl, rfl⟩, ⟨h4.1.trans hs, fun t ht => by rw [← hs]; exact h4.2.1 t ht, fun t => by rw [h4.2.2 t, hg t]⟩, ⟨fun _ _ => rfl, fun h => (by rw [hgv] at h; cases h), fun _ => ⟨Shape.refl m, Shape.refl m⟩, fun _ _ => Up.refl m⟩⟩
  unfold oneOp at h
  cases hg : o.guard with
  | none =>
    rw [hg] at h
    exact run p fr (fun _ => rfl) rfl (by simp [gval, hg]) h
  | some jw =>
    rw [hg] at h
    dsimp only at h
    rw [nth_eq] at h
    split at h
    · rename_i oj hoj
      split at h
      · rename_i d hd
        have hb : (all[jw.1]?).bind (·.dst) = some d := by rw [hoj]; exact hd
        split at h
        · rename_i b hfr
          obtain ⟨p', h⟩ := dec_holds h
          obtain ⟨fr2, h1, h2⟩ := Fr.set_holds h
          have hget : ∀ t, fr2.get t = fr.get t := fun t => by
            rw [h1.2.2 t]
            by_cases ht : some d = some t
            · injection ht with ht; subst ht; rw [if_pos rfl, hfr]
            · rw [if_neg ht]
          split at h2
          · rename_i hbw
            exact run p' fr2 hget h1.1 (by simp only [gval, hg, hb, hfr]; rw [hbw]) h2
          · rename_i hbw
            exact skip p' fr2 hget h1.1 (by simp only [gval, hg, hb, hfr]; rw [hbw]) h2
        · rename_i hfr
          exact skip p fr (fun _ => rfl) rfl (by simp only [gval, hg, hb, hfr]) h
        · exact h.elim
      · exact h.elim
    · exact h.elim

theorem execOps_chain (hE : EOK P E) {Q : Bool} {call : CallK α} (hcall : CallOK P Q call) {let_ : Op → Bool} {all : List Oper} {k : OpsK α} {L : α → Prop} : ∀ (ops : List Oper) (p : Plan) (fr : Fr) (m : Mem), (execOps E let_ call all ops k p fr m).holds L →
    ∃ p' fr' m', (k p' fr' m').holds L ∧ Chain P all ops fr m fr' m'
  | [], p, fr, m, h => ⟨p, fr, m, h, .nil fr m⟩
  | o :: rest, p, fr, m, h => by
    change (oneOp E let_ call all o (execOps E let_ call all rest k) p fr m).holds L at h
    obtain ⟨p1, v, fr1, m1, h1, h2, h3, h4⟩ := oneOp_holds hE hcall h
    obtain ⟨p', fr', m', h5, h6⟩ := execOps_chain hE hcall rest p1 fr1 m1 h1
    exact ⟨p', fr', m', h5, .cons h2 h3 h6⟩

/-- State: the memory and the frame, and the deferred calls. -/
def SRelD (ds : List Deferred) (w0 : World) (R0 : Nat → Prop) (ρ : Rho) (w : World) (fr : Fr) (m : Mem) (a : Act) : Prop :=
  MRel w0 R0 ρ w m ∧ FRel (RO w0 R0 ρ w m) ρ m.next w fr a.tmps ∧ a.defers = ds
abbrev SRel (w0 : World) (R0 : Nat → Prop) (ρ : Rho) (w : World) (fr : Fr) (m : Mem) (a : Act) : Prop := SRelD [] w0 R0 ρ w fr m a

theorem put_defers (a : Act) (d : Option Tmp) (v : Value) : (a.put d v).defers = a.defers := by cases d <;> rfl

theorem step_state {ds : List Deferred} {w0 : World} {R0 : Nat → Prop} {ρ : Rho} {w : World} {fr fr1 : Fr} {m m1 : Mem} {a : Act} {all : List Oper} {o : Oper} {v : SV} (hs : SRelD ds w0 R0 ρ w fr m a) (h : StepOK P all o fr m v m1) (hf : FSet fr o.dst v fr1) {K : Act → World → Prop} {Q : Exit → Act → World → Prop}
    (hK : ∀ ρ' w' a', SRelD ds w0 R0 ρ' w' fr1 m1 a' → MExt w0 R0 ρ w m ρ' w' m1 → K a' w') : if Region.wanted o (yielded all.toArray a.tmps) then o.wp P a w K Q ∨ (o.asks P a w ∧ LetsOut Q) else K (a.put o.dst Go.undef) w := by
  obtain ⟨hm, hfr, hd⟩ := hs
  rcases h with ⟨hg, hsem⟩ | ⟨hg, rfl, rfl⟩
  · rw [yielded_of (fun j want d _ _ => hfr.2 d) hg]
    refine .inl (upon_of_post (fun u w' hu => ?_) (hsem w0 R0 ρ w a.eval hm (fun x _ => hfr.eval x)))
    obtain ⟨ρ', g1, g2, g3⟩ := hu
    exact hK ρ' w' _ ⟨g1, (hfr.mono g2).put hf g3, by rw [put_defers]; exact hd⟩ g2
  · rw [yielded_of (fun j want d _ _ => hfr.2 d) hg]
    exact hK ρ w _ ⟨hm, hfr.put hf rfl, by rw [put_defers]; exact hd⟩ (Ext.refl _ _ _ _)

/-- In the order of the text. -/
theorem chain_wpOps {ds : List Deferred} {w0 : World} {R0 : Nat → Prop} {all : List Oper} {Q : Exit → Act → World → Prop} : ∀ {ops : List Oper} {fr fr' : Fr} {m m' : Mem}, Chain P all ops fr m fr' m' → ∀ (i : Nat), all.drop i = ops → ∀ (ρ : Rho) (w : World) (a : Act), SRelD ds w0 R0 ρ w fr m a →
    (∀ ρ' w' a', SRelD ds w0 R0 ρ' w' fr' m' a' → MExt w0 R0 ρ w m ρ' w' m' → Q .normal a' w') → wpOps P all.toArray Q (List.range' i ops.length) a w := by
  intro ops fr fr' m m' h
  induction h with
  | nil fr m => intro i hi ρ w a hs hQ; exact hQ ρ w a hs (Ext.refl _ _ _ _)
  | @cons o rest fr fr1 fr' m m1 m' v hst hf k ih =>
    intro i hi ρ w a hs hQ
    have hoi : all[i]? = some o := by
      have : (all.drop i)[0]? = some o := by rw [hi]; rfl
      simpa using this
    have hrest : all.drop (i + 1) = rest := by
      have : (all.drop i).drop 1 = rest := by rw [hi]; rfl
      rw [List.drop_drop] at this
      exact this
    rw [List.length_cons, List.range'_succ]
    unfold wpOps
    have hoi' : all.toArray[i]? = some o := by simpa using hoi
    rw [hoi']
    exact step_state hs hst hf fun ρ' w' a' hs' he => ih (i + 1) hrest ρ' w' a' hs' fun ρ2 w2 a2 hs2 he2 => hQ ρ2 w2 a2 hs2 (he.trans he2)

/-! ### Panics -/

/-- A panic in place of a value. -/
def PanPost (P : Program) (Φ : Value → World → Prop) : Result Next → Prop
  | .halt (.panic u) w => Φ u w
  | .ok (.enter f args) w => Calls P f args w fun e w' => ∃ u, e = .panicked [{ v := u, recovered := false }] ∧ Φ u w'
  | _ => False
def SemPan (P : Program) (m : Mem) (v : SV) (m' : Mem) (o : Oper) (ev : Operand → SV) : Prop :=
  ∀ w0 R0 ρ w (eb : Operand → Value), MRel w0 R0 ρ w m → (∀ x ∈ o.op.operands, Rep (RO w0 R0 ρ w m) ρ m.next w (ev x) (eb x)) → PanPost P (OpOut w0 R0 ρ w m v m') ((Go.execOp eb o).run P w)
/-- A call that panics. -/
def PanCall (P : Program) (m : Mem) (v : SV) (m' : Mem) (f : FuncId) (args : List SV) : Prop :=
  ∀ w0 R0 ρ w (vs : List Value), MRel w0 R0 ρ w m → RepL (RO w0 R0 ρ w m) ρ m.next w args vs → PanPost P (OpOut w0 R0 ρ w m v m') ((Go.callFunc f vs.toArray).run P w)
def XCall (P : Program) (f : FuncId) (args : List SV) (m : Mem) : Ex → Prop
  | .ok v m' => SemCall P m v m' f args
  | .pan v m' => PanCall P m v m' f args

/-- The operations up to the one that panics. -/
inductive ChainP (P : Program) (all : List Oper) : List Oper → Fr → Mem → SV → Fr → Mem → Prop where
  | here {o : Oper} {rest : List Oper} {fr : Fr} {m m' : Mem} {v : SV} (hg : o.guard = none) (h : SemPan P m v m' o (evalIn fr)) : ChainP P all (o :: rest) fr m v fr m'
  | next {o : Oper} {rest : List Oper} {fr fr1 fr' : Fr} {m m1 m' : Mem} {v u : SV} (h : StepOK P all o fr m u m1) (hf : FSet fr o.dst u fr1) (k : ChainP P all rest fr1 m1 v fr' m') : ChainP P all (o :: rest) fr m v fr' m'

theorem chainP_wpOps {ds : List Deferred} {w0 : World} {R0 : Nat → Prop} {all : List Oper} {Q : Exit → Act → World → Prop} : ∀ {ops : List Oper} {fr fr' : Fr} {m m' : Mem} {v : SV}, ChainP P all ops fr m v fr' m' → ∀ (i : Nat), all.drop i = ops → ∀ (ρ : Rho) (w : World) (a : Act), SRelD ds w0 R0 ρ w fr m a →
    (∀ ρ' w' a' u, SRelD ds w0 R0 ρ' w' fr' m' a' → MExt w0 R0 ρ w m ρ' w' m' → Rep (RO w0 R0 ρ' w' m') ρ' m'.next w' v u → Q (.panic [{ v := u, recovered := false }]) a' w') → wpOps P all.toArray Q (List.range' i ops.length) a w := by
  intro ops fr fr' m m' v h
  induction h with
  | @here o rest fr m m' v hg hsem =>
    intro i hi ρ w a hs hQ
    have hoi : all[i]? = some o := by
      have : (all.drop i)[0]? = some o := by rw [hi]; rfl
      simpa using this
    rw [List.length_cons, List.range'_succ]
    unfold wpOps
    have hoi' : all.toArray[i]? = some o := by simpa using hoi
    rw [hoi']
    obtain ⟨hm, hfr, hd⟩ := hs
    have hw : Region.wanted o (yielded all.toArray a.tmps) = true := yielded_of (get := fr.get) (fun j want d _ _ => hfr.2 d) (by simp [gval, hg])
    dsimp only
    rw [hw]
    refine .inl ?_
    have h1 := hsem w0 R0 ρ w a.eval hm fun x _ => hfr.eval x
    unfold Oper.wp
    generalize (Go.execOp a.eval o).run P w = r at h1
    have out : ∀ u w', OpOut w0 R0 ρ w m v m' u w' → Q (.panic [{ v := u, recovered := false }]) a w' := fun u w' ⟨ρ', g1, g2, g3⟩ => hQ ρ' w' a u ⟨g1, hfr.mono g2, hd⟩ g2 g3
    match r, h1 with
    | .halt (.panic u) w', h1 => exact out u w' h1
    | .ok (.enter f args) w', h1 =>
      rw [Oper.upon_enter]
      exact Calls.mono h1 fun e w'' ⟨u, he, hu⟩ => by subst he; exact out u w'' hu
  | @next o rest fr fr1 fr' m m1 m' v u hst hf k ih =>
    intro i hi ρ w a hs hQ
    have hoi : all[i]? = some o := by
      have : (all.drop i)[0]? = some o := by rw [hi]; rfl
      simpa using this
    have hrest : all.drop (i + 1) = rest := by
      have : (all.drop i).drop 1 = rest := by rw [hi]; rfl
      rw [List.drop_drop] at this
      exact this
    rw [List.length_cons, List.range'_succ]
    unfold wpOps
    have hoi' : all.toArray[i]? = some o := by simpa using hoi
    rw [hoi']
    exact step_state hs hst hf fun ρ' w' a' hs' he => ih (i + 1) hrest ρ' w' a' hs' fun ρ2 w2 a2 u2 hs2 he2 hr2 => hQ ρ2 w2 a2 u2 hs2 (he.trans he2) hr2
end
end Go.Sx
set_option linter.unusedSimpArgs false
set_option linter.unusedVariables false
namespace Go.Sx
open Go.RowKit

theorem beq_ff {a b : Nat} (h : Nat.beq a b = false) : a ≠ b := fun e => by subst e; simp at h

mutual
theorem Rep.bound {R : Nat → Prop} {ρ : Rho} {n : Nat} {w : World} {k : Nat} : ∀ (x : SV) (v : Value), Rep R ρ n w x v → ment k x = true → k < n
  | .undef, _, _, h => by cases h
  | .top, _, _, h => by cases h
  | .int _ _, _, _, h => by cases h
  | .bool _, _, _, h => by cases h
  | .str _, _, _, h => by cases h
  | .nilS, _, _, h => by cases h
  | .list _ _, _, _, h => by cases h
  | .row id, _, hr, h => by rw [← Nat.eq_of_beq_eq_true (show Nat.beq id k = true from h)]; exact hr.1
  | .arr id _ _, _, hr, h => by rw [← Nat.eq_of_beq_eq_true (show Nat.beq id k = true from h)]; exact hr.1
  | .ptr id _, _, hr, h => by rw [← Nat.eq_of_beq_eq_true (show Nat.beq id k = true from h)]; exact hr.1
  | .nilP, _, _, h => by cases h
  | .eptr _ _ _ _, _, _, h => by cases h
  | .rptr id _ _ _, _, hr, h => by rw [← Nat.eq_of_beq_eq_true (show Nat.beq id k = true from h)]; exact hr.1
  | .agg cs, _, hr, h => by
    obtain ⟨vs, _, h2⟩ := hr
    exact RepL.bound cs vs h2 h
  | .tuple cs, _, hr, h => by
    obtain ⟨vs, _, h2⟩ := hr
    exact RepL.bound cs vs h2 h
  | .fn f a b, _, hr, h => by
    obtain ⟨vs, us, _, h2, h3⟩ := hr
    have h : (mentL k a || mentL k b) = true := h
    rcases Bool.or_eq_true _ _ ▸ h with h | h
    · exact RepL.bound a vs h2 h
    · exact RepL.bound b us h3 h
  | .raw _, _, _, h => by cases h
theorem RepL.bound {R : Nat → Prop} {ρ : Rho} {n : Nat} {w : World} {k : Nat} : ∀ (xs : List SV) (vs : List Value), RepL R ρ n w xs vs → mentL k xs = true → k < n
  | [], _, _, h => by cases h
  | x :: xs, _, hr, h => by
    obtain ⟨u, us, _, h2, h3⟩ := hr
    have h : (ment k x || mentL k xs) = true := h
    rcases Bool.or_eq_true _ _ ▸ h with h | h
    · exact Rep.bound x u h2 h
    · exact RepL.bound xs us h3 h
end

mutual
theorem Rep.upd {R : Nat → Prop} {ρ : Rho} {n : Nat} {w : World} {k : Nat} {r : Nat × Nat × Nat} : ∀ (x : SV) (v : Value), ment k x = false → Rep R ρ n w x v → Rep R (Go.Sx.upd ρ k r) n w x v
  | .undef, _, _, h => h
  | .top, _, _, _ => trivial
  | .int _ _, _, _, h => h
  | .bool _, _, _, h => h
  | .str _, _, _, h => h
  | .nilS, _, _, h => h
  | .list _ _, _, _, h => h
  | .row id, _, hm, h => by
    have hne := beq_ff (show Nat.beq id k = false from hm)
    exact ⟨h.1, by rw [upd_other _ _ hne]; exact h.2⟩
  | .arr id _ _, _, hm, h => by
    have hne := beq_ff (show Nat.beq id k = false from hm)
    exact ⟨h.1, by rw [upd_other _ _ hne]; exact h.2⟩
  | .ptr id _, _, hm, h => by
    have hne := beq_ff (show Nat.beq id k = false from hm)
    exact ⟨h.1, by rw [upd_other _ _ hne]; exact h.2⟩
  | .nilP, _, _, h => h
  | .eptr _ _ _ _, _, _, h => h
  | .rptr id _ _ _, _, hm, h => by
    have hne := beq_ff (show Nat.beq id k = false from hm)
    exact ⟨h.1, by rw [upd_other _ _ hne]; exact h.2⟩
  | .agg cs, _, hm, h => by
    obtain ⟨vs, h1, h2⟩ := h
    exact ⟨vs, h1, RepL.upd cs vs hm h2⟩
  | .tuple cs, _, hm, h => by
    obtain ⟨vs, h1, h2⟩ := h
    exact ⟨vs, h1, RepL.upd cs vs hm h2⟩
  | .fn f a b, _, hm, h => by
    obtain ⟨vs, us, h1, h2, h3⟩ := h
    have hm : (mentL k a || mentL k b) = false := hm
    rw [Bool.or_eq_false_iff] at hm
    exact ⟨vs, us, h1, RepL.upd a vs hm.1 h2, RepL.upd b us hm.2 h3⟩
  | .raw _, _, _, h => h
theorem RepL.upd {R : Nat → Prop} {ρ : Rho} {n : Nat} {w : World} {k : Nat} {r : Nat × Nat × Nat} : ∀ (xs : List SV) (vs : List Value), mentL k xs = false → RepL R ρ n w xs vs → RepL R (Go.Sx.upd ρ k r) n w xs vs
  | [], _, _, h => h
  | x :: xs, _, hm, h => by
    obtain ⟨u, us, h1, h2, h3⟩ := h
    have hm : (ment k x || mentL k xs) = false := hm
    rw [Bool.or_eq_false_iff] at hm
    exact ⟨u, us, h1, Rep.upd x u hm.1 h2, RepL.upd xs us hm.2 h3⟩
end
theorem BoxRel.upd {R : Nat → Prop} {ρ : Rho} {n : Nat} {w : World} {k : Nat} {r r' : Nat × Nat × Nat} : ∀ (B : Box), mentB k (some B) = false → BoxRel R ρ n w r B → BoxRel R (Go.Sx.upd ρ k r') n w r B
  | .cells cs, hm, h => by
    obtain ⟨arr, e, fr, h1, h2, h3⟩ := h
    exact ⟨arr, e, fr, h1, h2, RepL.upd cs _ hm h3⟩
  | .rows _ _, _, h => h
  | .iter _ _, _, h => h
  | .obj t cs, hm, h => by
    obtain ⟨arr, h1, h3⟩ := h
    exact ⟨arr, h1, RepL.upd cs _ hm h3⟩

/-- A new variable whose name was kept for it. -/
theorem MRel.allocAt {w0 : World} {R0 : Nat → Prop} {ρ : Rho} {w : World} {m m' : Mem} (hm : MRel w0 R0 ρ w m) {k : Nat} (hk : k < m.next) (hn : m.get k = none) (hB : ∀ id B, m.get id = some B → mentB k (some B) = false) {cs : List SV} {arr : Array Value} {e : TypeId}
    (hg : ∀ id, m'.get id = if id = k then some (.cells cs) else m.get id) (hnx : m'.next = m.next) (hc : ∀ R ρ n w, RepL R ρ n w cs arr.toList) :
    MRel w0 R0 (upd ρ k (w.heap.size, 0, 0)) (w.alloc (.cells arr e)) m' ∧ (∀ b, RO w0 R0 ρ w m b → RO w0 R0 (upd ρ k (w.heap.size, 0, 0)) (w.alloc (.cells arr e)) m' b ∧ (w.alloc (.cells arr e)).heap[b]? = w.heap[b]?) ∧
      ∀ x v, ment k x = false → Rep (RO w0 R0 ρ w m) ρ m.next w x v → Rep (RO w0 R0 (upd ρ k (w.heap.size, 0, 0)) (w.alloc (.cells arr e)) m') (upd ρ k (w.heap.size, 0, 0)) m'.next (w.alloc (.cells arr e)) x v := by
  have hle := hm.size_le
  have hsz : (w.alloc (.cells arr e)).heap.size = w.heap.size + 1 := by simp
  have hold : ∀ b, b < w.heap.size → (w.alloc (.cells arr e)).heap[b]? = w.heap[b]? := fun b hb => Below.heap_alloc w _ b hb
  have hG : ∀ id C, m'.get id = some C → (id = k ∧ C = .cells cs) ∨ (id ≠ k ∧ m.get id = some C) := fun id C hid => by
    rw [hg id] at hid
    by_cases h : id = k
    · rw [if_pos h] at hid; injection hid with hid; exact .inl ⟨h, hid.symm⟩
    · rw [if_neg h] at hid; exact .inr ⟨h, hid⟩
  have hro : ∀ b, RO w0 R0 ρ w m b → RO w0 R0 (upd ρ k (w.heap.size, 0, 0)) (w.alloc (.cells arr e)) m' b := fun b hb => by
    have hlt := hm.ro_lt hb
    rcases hb with hb | ⟨h1, h2, h3⟩
    · exact .inl hb
    · refine .inr ⟨h1, by omega, fun id C hid hsol => ?_⟩
      rcases hG id C hid with ⟨rfl, rfl⟩ | ⟨hne, hx⟩
      · rw [upd_same]; omega
      · rw [upd_other _ _ hne] at hsol ⊢; exact h3 id C hx hsol
  have e1 : Ext (RO w0 R0 ρ w m) (upd ρ k (w.heap.size, 0, 0)) m.next w (RO w0 R0 (upd ρ k (w.heap.size, 0, 0)) (w.alloc (.cells arr e)) m') (upd ρ k (w.heap.size, 0, 0)) m'.next (w.alloc (.cells arr e)) :=
    ⟨by omega, fun _ _ => rfl, fun b hb => ⟨hro b hb, hold b (hm.ro_lt hb)⟩⟩
  refine ⟨⟨hm.below.trans ⟨rfl, rfl, rfl, by omega, fun b hb => hold b (by omega)⟩, fun id C hid => ?_, fun id C hid hsol => ?_, fun id C hid hsol => ?_, fun id id' C C' hid hid' hs1 hs2 he => ?_, fun id C hid => ?_⟩, fun b hb => ⟨hro b hb, hold b (hm.ro_lt hb)⟩, fun x v hx hr => Rep.mono e1 x v (Rep.upd x v hx hr)⟩
  · rw [hnx]
    rcases hG id C hid with ⟨rfl, _⟩ | ⟨_, hx⟩
    · exact hk
    · exact hm.lt id C hx
  · rcases hG id C hid with ⟨rfl, rfl⟩ | ⟨hne, hx⟩
    · rw [upd_same]; exact hle
    · rw [upd_other _ _ hne] at hsol ⊢; exact hm.lo id C hx hsol
  · rcases hG id C hid with ⟨rfl, rfl⟩ | ⟨hne, hx⟩
    · rw [upd_same]; show w.heap.size < _; omega
    · rw [upd_other _ _ hne] at hsol ⊢; have := hm.hi id C hx hsol; omega
  · rcases hG id C hid with ⟨rfl, rfl⟩ | ⟨hne, hx⟩ <;> rcases hG id' C' hid' with ⟨rfl, rfl⟩ | ⟨hne', hx'⟩
    · rfl
    · rw [upd_same] at he; rw [upd_other _ _ hne'] at hs2 he
      have := hm.hi id' C' hx' hs2
      have he : w.heap.size = (ρ id').1 := he
      omega
    · rw [upd_same] at he; rw [upd_other _ _ hne] at hs1 he
      have := hm.hi id C hx hs1
      have he : (ρ id).1 = w.heap.size := he
      omega
    · rw [upd_other _ _ hne] at hs1 he; rw [upd_other _ _ hne'] at hs2 he
      exact hm.inj id id' C C' hx hx' hs1 hs2 he
  · rcases hG id C hid with ⟨rfl, rfl⟩ | ⟨hne, hx⟩
    · rw [upd_same]
      exact ⟨arr, e, (0, 0), heap_alloc_new w _, unfrozen_zero _, hc _ _ _ _⟩
    · rw [upd_other _ _ hne]
      exact BoxRel.mono e1 C (fun hsol => hold _ (hm.hi id C hx hsol)) (BoxRel.upd C (hB id C hx) (hm.box id C hx))

/-- A new variable in a region: nothing that is there mentions its name. -/
def AllocAt (P : Program) (o : Oper) (n0 : Nat) (v : SV) (cur : Nat → SV) (m m' : Mem) : Prop :=
  ∃ t k r, o.op = .alloc t ∧ o.guard = none ∧ RowOK P t r ∧ v = .ptr k 0 ∧ n0 ≤ k ∧ k < m.next ∧ m.get k = none ∧ (∀ id, m'.get id = if id = k then some (.cells r.zero) else m.get id) ∧ m'.next = m.next ∧ (∀ t, ment k (cur t) = false) ∧ ∀ id B, m.get id = some B → mentB k (some B) = false
end Go.Sx
set_option linter.unusedSimpArgs false
set_option linter.unusedVariables false
namespace Go.Sx
open Go.RowKit
section
variable {P : Program} {E : Env} {α : Type}

/-- A walk of the text's order. -/
inductive ChainW (P : Program) (E : Env) (all : List Oper) : List Oper → Fr → Mem → Fr → Mem → Prop where
  | nil (fr : Fr) (m : Mem) : ChainW P E all [] fr m fr m
  | cons {o : Oper} {rest : List Oper} {fr fr1 fr' : Fr} {m m1 m' : Mem} {v : SV} (h : StepOK P all o fr m v m1) (hx : MoreOK P E true all o fr m v m1) (hf : FSet fr o.dst v fr1) (k : ChainW P E all rest fr1 m1 fr' m') : ChainW P E all (o :: rest) fr m fr' m'

theorem execOps_chainW (hE : EOK P E) {call : CallK α} (hcall : CallOK P true call) {let_ : Op → Bool} {all : List Oper} {k : OpsK α} {L : α → Prop} : ∀ (ops : List Oper) (p : Plan) (fr : Fr) (m : Mem), (execOps E let_ call all ops k p fr m).holds L →
    ∃ p' fr' m', (k p' fr' m').holds L ∧ ChainW P E all ops fr m fr' m'
  | [], p, fr, m, h => ⟨p, fr, m, h, .nil fr m⟩
  | o :: rest, p, fr, m, h => by
    change (oneOp E let_ call all o (execOps E let_ call all rest k) p fr m).holds L at h
    obtain ⟨p1, v, fr1, m1, h1, h2, h3, h4⟩ := oneOp_holds hE hcall h
    obtain ⟨p', fr', m', h5, h6⟩ := execOps_chainW hE hcall rest p1 fr1 m1 h1
    exact ⟨p', fr', m', h5, .cons h2 h4 h3 h6⟩

/-- The same by index: the frame and the memory ahead of each operation, and what each leaves. -/
structure WalkM (P : Program) (E : Env) (all : List Oper) (m m' : Mem) (fr fr' : Fr) (frs : Nat → Fr) (vals : Nat → SV) (ms : Nat → Mem) : Prop where
  first : frs 0 = fr
  last : frs all.length = fr'
  mfirst : ms 0 = m
  mlast : ms all.length = m'
  step : ∀ i o, all[i]? = some o → StepOK P all o (frs i) (ms i) (vals i) (ms (i + 1))
  more : ∀ i o, all[i]? = some o → MoreOK P E true all o (frs i) (ms i) (vals i) (ms (i + 1))
  next : ∀ i o, all[i]? = some o → FSet (frs i) o.dst (vals i) (frs (i + 1))

theorem ChainW.index {all : List Oper} : ∀ {ops : List Oper} {fr fr' : Fr} {m m' : Mem}, ChainW P E all ops fr m fr' m' → ∃ (frs : Nat → Fr) (vals : Nat → SV) (ms : Nat → Mem), frs 0 = fr ∧ frs ops.length = fr' ∧ ms 0 = m ∧ ms ops.length = m' ∧
    (∀ i o, ops[i]? = some o → StepOK P all o (frs i) (ms i) (vals i) (ms (i + 1))) ∧ (∀ i o, ops[i]? = some o → MoreOK P E true all o (frs i) (ms i) (vals i) (ms (i + 1))) ∧ (∀ i o, ops[i]? = some o → FSet (frs i) o.dst (vals i) (frs (i + 1))) := by
  intro ops fr fr' m m' h
  induction h with
  | nil fr m => exact ⟨fun _ => fr, fun _ => .undef, fun _ => m, rfl, rfl, rfl, rfl, fun i o h => by simp at h, fun i o h => by simp at h, fun i o h => by simp at h⟩
  | @cons o rest fr fr1 fr' m m1 m' v hst hx hf k ih =>
    obtain ⟨frs, vals, ms, h1, h2, h1m, h2m, h3, hx3, h4⟩ := ih
    refine ⟨fun i => Nat.casesOn i fr frs, fun i => Nat.casesOn i v vals, fun i => Nat.casesOn i m ms, rfl, h2, rfl, h2m, fun i o' hi => ?_, fun i o' hi => ?_, fun i o' hi => ?_⟩
    · cases i with
      | zero => simp at hi; subst hi; dsimp only; rw [h1m]; exact hst
      | succ i => exact h3 i o' (by simpa using hi)
    · cases i with
      | zero => simp at hi; subst hi; dsimp only; rw [h1m]; exact hx
      | succ i => exact hx3 i o' (by simpa using hi)
    · cases i with
      | zero => simp at hi; subst hi; dsimp only; rw [h1]; exact hf
      | succ i => exact h4 i o' (by simpa using hi)

theorem ChainW.toWalk {all : List Oper} {m m' : Mem} {fr fr' : Fr} (h : ChainW P E all all fr m fr' m') : ∃ frs vals ms, WalkM P E all m m' fr fr' frs vals ms :=
  let ⟨frs, vals, ms, h1, h2, h3, h4, h5, h6, h7⟩ := h.index
  ⟨frs, vals, ms, h1, h2, h3, h4, h5, h6, h7⟩

/-- A walk, of the slots alone. -/
structure Walk (all : List Oper) (fr fr' : Fr) (frs : Nat → Fr) (vals : Nat → SV) : Prop where
  first : frs 0 = fr
  last : frs all.length = fr'
  next : ∀ i o, all[i]? = some o → FSet (frs i) o.dst (vals i) (frs (i + 1))

/-! ### Which value a slot holds when the operations of a set have been carried out -/

noncomputable def cur (all : List Oper) (fr : Fr) (vals : Nat → SV) (S : Nat → Bool) : Nat → Nat → SV
  | 0, t => fr.get t
  | n + 1, t => if S n = true ∧ (all[n]?).bind (·.dst) = some t then vals n else cur all fr vals S n t

theorem cur_walk {all : List Oper} {fr fr' : Fr} {frs : Nat → Fr} {vals : Nat → SV} (hw : Walk all fr fr' frs vals) : ∀ (i : Nat), i ≤ all.length → ∀ t, (frs i).get t = cur all fr vals (fun _ => true) i t
  | 0, _, t => by rw [hw.first]; rfl
  | i + 1, hi, t => by
    have hlt : i < all.length := hi
    have ho : all[i]? = some all[i] := List.getElem?_eq_getElem hlt
    rw [(hw.next i _ ho).2.2 t, cur_walk hw i (by omega) t]
    simp only [cur, ho, Option.bind_some, true_and]

theorem cur_same {all : List Oper} {fr : Fr} {vals : Nat → SV} {S S' : Nat → Bool} {t : Nat} : ∀ (i : Nat), (∀ j, j < i → (all[j]?).bind (·.dst) = some t → S j = S' j) → cur all fr vals S i t = cur all fr vals S' i t
  | 0, _ => rfl
  | i + 1, h => by
    have ih := cur_same (fr := fr) (vals := vals) i (fun j hj => h j (by omega))
    simp only [cur, ih]
    by_cases hd : (all[i]?).bind (·.dst) = some t
    · rw [h i (by omega) hd]
    · simp [hd]

theorem cur_past {all : List Oper} {fr : Fr} {vals : Nat → SV} {S : Nat → Bool} {t i : Nat} : ∀ (n : Nat), i ≤ n → (∀ j, i ≤ j → j < n → (all[j]?).bind (·.dst) = some t → S j = false) → cur all fr vals S n t = cur all fr vals S i t
  | 0, hi, _ => by rw [show i = 0 by omega]
  | n + 1, hi, h => by
    by_cases he : i = n + 1
    · rw [he]
    · have ih := cur_past (fr := fr) (vals := vals) n (by omega) (fun j h1 h2 => h j h1 (by omega))
      simp only [cur]
      by_cases hd : (all[n]?).bind (·.dst) = some t
      · rw [h n (by omega) (by omega) hd]; simpa using ih
      · simp [hd]; exact ih

/-! ### The look at the region -/

/-- Of two operations the later waits for the earlier, or they are apart; and each waits for earlier ones alone. -/
structure Indep (all : List Oper) : Prop where
  pair : ∀ i j oi oj, i < j → all[i]? = some oi → all[j]? = some oj → (∃ e ∈ oj.after, Region.binds .any e = true ∧ e.on = i) ∨ oi.apart all.toArray oj = true
  back : ∀ j oj, all[j]? = some oj → ∀ e ∈ oj.after, Region.binds .any e = true → e.on < j

theorem indep_of_lexB {all : List Oper} (h : Region.lexB .any all.toArray = true) : Indep all := by
  simp only [Region.lexB, Bool.and_eq_true] at h
  have key : ∀ (f k : Nat) (listed : Array Bool), k + f = all.length → (∀ i, i < all.length → listed.getD i true = decide (i < k)) → listed.size = all.length → Region.lexFrom .any all.toArray f k listed = true →
      ∀ i, k ≤ i → i < all.length → (∀ oi, all[i]? = some oi → ∀ e ∈ oi.after, Region.binds .any e = true → e.on < i) ∧ ∀ j oi oj, i < j → all[i]? = some oi → all[j]? = some oj → (∃ e ∈ oj.after, Region.binds .any e = true ∧ e.on = i) ∨ oi.apart all.toArray oj = true := by
    intro f
    induction f with
    | zero => intro k listed hk hl hsz h i h1 h2; omega
    | succ f ih =>
      intro k listed hk hl hsz h i h1 h2
      simp only [Region.lexFrom, Bool.and_eq_true] at h
      obtain ⟨⟨hr, hf⟩, hB⟩ := h
      by_cases hik : i = k
      · subst hik
        have hr' : i ∈ Region.ready .any all.toArray listed := by simpa using hr
        obtain ⟨_, o, ho, hall⟩ := mem_ready.1 hr'
        have hoi : all[i]? = some o := by simpa using ho
        constructor
        · intro oi hi e he hb
          rw [hoi] at hi; injection hi with hi; subst hi
          have := hall e he hb
          have hlt : e.on < all.length := by
            rcases Nat.lt_or_ge e.on all.length with h | h
            · exact h
            · rw [Array.getD_eq_getD_getElem?, Array.getElem?_eq_none (by omega)] at this; simp at this
          have h3 := hl e.on hlt
          have h4 : listed.getD e.on true = true := by
            rw [Array.getD_eq_getD_getElem?] at this ⊢
            rw [Array.getElem?_eq_getElem (by omega)] at this ⊢
            simpa using this
          rw [h4] at h3
          simpa using h3.symm
        · intro j oi oj hij hi hj
          rw [hoi] at hi; injection hi with hi; subst hi
          have hjl : j < all.length := (List.getElem?_eq_some_iff.1 hj).1
          by_cases hw : ∃ e ∈ oj.after, Region.binds .any e = true ∧ e.on = i
          · exact .inl hw
          · refine .inr (Region.free_spec ho hf j oj (by simpa using hj) (by omega) ?_ (fun e he hb heq => hw ⟨e, he, hb, heq⟩))
            rw [hl j hjl]; simp; omega
      · refine ih (k + 1) _ (by omega) (fun j hj => ?_) (by simpa using hsz) hB i (by omega) h2
        have h3 := hl j hj
        by_cases hjk : k = j
        · subst hjk
          rw [Array.getD_eq_getD_getElem?, Array.getElem?_setIfInBounds]
          simp [hsz, hj]
        · rw [getD_set_ne true hjk, h3]
          congr 1
          rw [eq_iff_iff]; omega
  have hk := key all.length 0 (Array.replicate all.length false) (by omega) (fun i hi => by simp [hi]) (by simp) (by simpa using h.2)
  refine ⟨fun i j oi oj hij hi hj => ?_, fun j oj hj => ?_⟩
  · exact (hk i (Nat.zero_le _) (List.getElem?_eq_some_iff.1 hi).1).2 j oi oj hij hi hj
  · exact (hk j (Nat.zero_le _) (List.getElem?_eq_some_iff.1 hj).1).1 oj hj

/-! ### Whatever order is picked -/

def unlisted (listed : Array Bool) : Nat → Nat
  | 0 => 0
  | n + 1 => unlisted listed n + if listed.getD n true = true then 0 else 1

theorem unlisted_set {listed : Array Bool} {i : Nat} : ∀ (n : Nat), i < n → listed.getD i true = false → i < listed.size → unlisted (listed.setIfInBounds i true) n + 1 = unlisted listed n
  | 0, h, _, _ => by omega
  | n + 1, h, hf, hs => by
    by_cases hin : i = n
    · subst hin
      have h1 : (listed.setIfInBounds i true).getD i true = true := by simp [Array.getD_eq_getD_getElem?, Array.getElem?_setIfInBounds, hs]
      have h2 : ∀ k, k ≤ i → unlisted (listed.setIfInBounds i true) k = unlisted listed k := by
        intro k
        induction k with
        | zero => intro _; rfl
        | succ k ih =>
          intro hk
          simp only [unlisted, ih (by omega)]
          rw [getD_set_ne true (by omega)]
      simp only [unlisted, h1, hf, h2 i (Nat.le_refl _)]
      simp
    · have ih := unlisted_set n (by omega) hf hs
      simp only [unlisted]
      rw [getD_set_ne true hin]
      omega

theorem unlisted_zero {listed : Array Bool} : ∀ (n : Nat), unlisted listed n = 0 → ∀ i, i < n → listed.getD i true = true
  | 0, _, i, hi => by omega
  | n + 1, h, i, hi => by
    simp only [unlisted] at h
    by_cases hin : i = n
    · subst hin
      by_cases hc : listed.getD i true = true
      · exact hc
      · rw [if_neg hc] at h; omega
    · exact unlisted_zero n (by omega) i (by omega)

theorem looks_operand {ops : Array Oper} {o : Oper} {t : Tmp} (h : .tmp t ∈ o.op.operands) : t ∈ o.looksAt ops :=
  List.mem_append_left _ (List.mem_filterMap.2 ⟨.tmp t, by simpa using h, rfl⟩)
theorem looks_guard {ops : Array Oper} {o : Oper} {g : Nat} {want : Bool} {t : Tmp} (h : o.guard = some (g, want)) (hd : (ops[g]?).bind (·.dst) = some t) : t ∈ o.looksAt ops :=
  List.mem_append_right _ (by rw [h]; dsimp only; rw [hd]; simp)

theorem any_order {ds : List Deferred} {w0 : World} {R0 : Nat → Prop} {all : List Oper} {fr fr' : Fr} {frs : Nat → Fr} {vals : Nat → SV} (n0 : Nat) (hw : Walk all fr fr' frs vals) (hi : Indep all) {M : (Nat → Bool) → Mem} (hMc : ∀ S S', (∀ k, k < all.length → S k = S' k) → M S = M S')
    (hstep : ∀ (S : Nat → Bool) i o, all[i]? = some o → S i = false → (∀ j oj, all[j]? = some oj → S j = true → ∀ e ∈ oj.after, Region.binds .any e = true → S e.on = true) → (∀ e ∈ o.after, Region.binds .any e = true → S e.on = true) → StepOK P all o (frs i) (M S) (vals i) (M fun k => if k = i then true else S k) ∨ AllocAt P o n0 (vals i) (cur all fr vals S all.length) (M S) (M fun k => if k = i then true else S k))
    (hns : Region.noSelect all.toArray = true) {Q : Exit → Act → World → Prop} {Ψ : Rho → World → Mem → Prop}
    (hΨa : ∀ ρ w m k r w' m', n0 ≤ k → Ψ ρ w m → m'.next = m.next → (∀ b, RO w0 R0 ρ w m b → RO w0 R0 (upd ρ k r) w' m' b ∧ w'.heap[b]? = w.heap[b]?) → Ψ (upd ρ k r) w' m')
    (hΨ : ∀ ρ w m ρ' w' m', Ψ ρ w m → MExt w0 R0 ρ w m ρ' w' m' → Ψ ρ' w' m') (hQ : ∀ ρ w a, SRelD ds w0 R0 ρ w fr' (M fun _ => true) a → Ψ ρ w (M fun _ => true) → Q .normal a w) : ∀ (fuel : Nat) (listed : Array Bool) (ρ : Rho) (w : World) (a : Act), listed.size = all.length → unlisted listed all.length = fuel →
    (∀ j oj, all[j]? = some oj → listed.getD j true = true → ∀ e ∈ oj.after, Region.binds .any e = true → listed.getD e.on false = true) →
    MRel w0 R0 ρ w (M fun k => listed.getD k true) → fr.size = a.tmps.size → a.defers = ds → (∀ t, Rep (RO w0 R0 ρ w (M fun k => listed.getD k true)) ρ (M fun k => listed.getD k true).next w (cur all fr vals (fun i => listed.getD i true) all.length t) (a.tmps.getD t Go.undef)) → Ψ ρ w (M fun k => listed.getD k true) →
    wpAny P .any all.toArray Q fuel listed a w := by
  have hsize : ∀ i, i ≤ all.length → (frs i).size = fr.size := by
    intro i
    induction i with
    | zero => intro _; rw [hw.first]
    | succ i ih => intro h; rw [(hw.next i _ (List.getElem?_eq_getElem (by omega))).1]; exact ih (by omega)
  have done : ∀ (listed : Array Bool) (ρ : Rho) (w : World) (a : Act), listed.size = all.length → MRel w0 R0 ρ w (M fun k => listed.getD k true) → fr.size = a.tmps.size → a.defers = ds → (∀ t, Rep (RO w0 R0 ρ w (M fun k => listed.getD k true)) ρ (M fun k => listed.getD k true).next w (cur all fr vals (fun i => listed.getD i true) all.length t) (a.tmps.getD t Go.undef)) → Ψ ρ w (M fun k => listed.getD k true) → (∀ i, i < all.length → listed.getD i true = true) → Q .normal a w := by
    intro listed ρ w a hsz hm hs hd hrep hps hall
    have eM : M (fun k => listed.getD k true) = M fun _ => true := hMc _ _ fun k hk => hall k hk
    rw [eM] at hm hrep hps
    refine hQ ρ w a ⟨hm, ⟨by rw [← hw.last, hsize _ (Nat.le_refl _)]; exact hs, fun t => ?_⟩, hd⟩ hps
    have e : fr'.get t = cur all fr vals (fun i => listed.getD i true) all.length t := by
      rw [← hw.last, cur_walk hw _ (Nat.le_refl _)]
      exact cur_same _ fun j hj _ => (hall j hj).symm
    rw [e]; exact hrep t
  -- where none is ready all are listed
  have none_ready : ∀ (listed : Array Bool), listed.size = all.length → Region.ready .any all.toArray listed = [] → ∀ i, i < all.length → listed.getD i true = true := by
    intro listed hsz hr i
    induction i using Nat.strongRecOn with
    | _ i ih =>
      intro hil
      rcases Bool.eq_false_or_eq_true (listed.getD i true) with h | h
      · exact h
      · have : i ∈ Region.ready .any all.toArray listed := by
          rw [mem_ready]
          refine ⟨h, all[i], by simp [hil], fun e he hb => ?_⟩
          have hlt := hi.back i _ (List.getElem?_eq_getElem hil) e he hb
          have h1 := ih e.on hlt (by omega)
          rw [Array.getD_eq_getD_getElem?, Array.getElem?_eq_getElem (by omega)] at h1 ⊢
          simpa using h1
        rw [hr] at this
        cases this
  intro fuel
  induction fuel with
  | zero =>
    intro listed ρ w a hsz hun hcl hm hs hd hrep hps
    have hall := unlisted_zero _ hun
    refine ⟨?_, done listed ρ w a hsz hm hs hd hrep hps hall⟩
    apply List.eq_nil_iff_forall_not_mem.2
    intro i hir
    obtain ⟨h1, o, ho, _⟩ := mem_ready.1 hir
    have hil : i < all.length := by
      have : all[i]? = some o := by simpa using ho
      exact (List.getElem?_eq_some_iff.1 this).1
    rw [hall i hil] at h1; cases h1
  | succ fuel ih =>
    intro listed ρ w a hsz hun hcl hm hs hd hrep hps
    refine ⟨fun hr => done listed ρ w a hsz hm hs hd hrep hps (none_ready listed hsz hr), fun i hir => ?_⟩
    obtain ⟨hl, o, ho, hdeps⟩ := mem_ready.1 hir
    have hoi : all[i]? = some o := by simpa using ho
    have hil : i < all.length := (List.getElem?_eq_some_iff.1 hoi).1
    -- whoever writes a slot that i looks at, ahead of i, is listed; whoever writes it behind i is not
    have before : ∀ j oj, all[j]? = some oj → j < i → oj.apart all.toArray o = false → listed.getD j true = true := by
      intro j oj hj hji hap
      rcases hi.pair j i oj o hji hj hoi with ⟨e, he, hb, heq⟩ | h
      · have := hdeps e he hb
        rw [heq, Array.getD_eq_getD_getElem?] at this
        have hjl : j < listed.size := by rw [hsz]; exact (List.getElem?_eq_some_iff.1 hj).1
        rw [Array.getElem?_eq_getElem hjl] at this
        rw [Array.getD_eq_getD_getElem?, Array.getElem?_eq_getElem hjl]
        simpa using this
      · rw [hap] at h; cases h
    have behind : ∀ j oj, all[j]? = some oj → i < j → o.apart all.toArray oj = false → listed.getD j true = false := by
      intro j oj hj hij hap
      rcases hi.pair i j o oj hij hoi hj with ⟨e, he, hb, heq⟩ | h
      · rcases Bool.eq_false_or_eq_true (listed.getD j true) with hc | hc
        · have := hcl j oj hj hc e he hb
          rw [heq, Array.getD_eq_getD_getElem?] at this
          rw [Array.getD_eq_getD_getElem?] at hl
          rw [Array.getElem?_eq_getElem (by omega)] at this hl
          simp at this hl; rw [this] at hl; cases hl
        · exact hc
      · rw [hap] at h; cases h
    -- what i looks at
    have looks : ∀ t, t ∈ o.looksAt all.toArray → cur all fr vals (fun k => listed.getD k true) all.length t = (frs i).get t := by
      intro t ht
      rw [cur_walk hw i (by omega), cur_past (i := i) all.length (by omega) (fun j h1 h2 hd' => ?_)]
      · refine cur_same i fun j hj hd' => ?_
        have hjl : j < all.length := by omega
        refine before j _ (List.getElem?_eq_getElem hjl) hj ?_
        have hd2 : all[j].dst = some t := by simpa [List.getElem?_eq_getElem hjl] using hd'
        simp [Oper.apart, hd2, ht]
      · by_cases hji : j = i
        · subst hji; exact hl
        · have hjl : j < all.length := h2
          refine behind j _ (List.getElem?_eq_getElem hjl) (by omega) ?_
          have hd2 : all[j].dst = some t := by simpa [List.getElem?_eq_getElem hjl] using hd'
          simp [Oper.apart, hd2, ht]
    -- behind i
    have hset : ∀ k, k < all.length → (listed.setIfInBounds i true).getD k true = if k = i then true else listed.getD k true := by
      intro k hk
      by_cases hki : k = i
      · subst hki; simp [Array.getD_eq_getD_getElem?, Array.getElem?_setIfInBounds, hsz, hil]
      · rw [getD_set_ne true (Ne.symm hki), if_neg hki]
    have hcur : ∀ t, cur all fr vals (fun k => (listed.setIfInBounds i true).getD k true) all.length t = if o.dst = some t then vals i else cur all fr vals (fun k => listed.getD k true) all.length t := by
      intro t
      by_cases ht : o.dst = some t
      · rw [if_pos ht, cur_past (i := i + 1) all.length hil (fun j h1 h2 hd' => ?_)]
        · simp only [cur, hoi, Option.bind_some]
          rw [if_pos ⟨by rw [hset i hil]; simp, ht⟩]
        · rw [hset j h2, if_neg (by omega)]
          refine behind j _ (List.getElem?_eq_getElem h2) (by omega) ?_
          have hd2 : all[j].dst = some t := by simpa [List.getElem?_eq_getElem h2] using hd'
          simp [Oper.apart, hd2, ht]
      · rw [if_neg ht]
        refine cur_same _ fun j hj hd' => ?_
        rw [hset j hj]
        by_cases hji : j = i
        · subst hji
          rw [hoi] at hd'
          exact absurd (by simpa using hd') ht
        · rw [if_neg hji]
    have hun' : unlisted (listed.setIfInBounds i true) all.length = fuel := by
      have := unlisted_set all.length hil hl (by omega)
      omega
    have hcl' : ∀ j oj, all[j]? = some oj → (listed.setIfInBounds i true).getD j true = true → ∀ e ∈ oj.after, Region.binds .any e = true → (listed.setIfInBounds i true).getD e.on false = true := by
      intro j oj hj hlj e he hb
      have hjl : j < all.length := (List.getElem?_eq_some_iff.1 hj).1
      rw [hset j hjl] at hlj
      by_cases hji : j = i
      · subst hji
        rw [hoi] at hj; injection hj with hj; subst hj
        exact getD_set_true (hdeps e he hb)
      · rw [if_neg hji] at hlj
        exact getD_set_true (hcl j oj hj hlj e he hb)
    have hfs := hw.next i o hoi
    -- the memory ahead of i and behind i
    have eM : M (fun k => (listed.setIfInBounds i true).getD k true) = M fun k => if k = i then true else listed.getD k true := hMc _ _ fun k hk => hset k hk
    have up : ∀ k, listed.getD k false = true → listed.getD k true = true := fun k hk => by
      rw [Array.getD_eq_getD_getElem?] at hk ⊢
      cases hx : listed[k]? with
      | none => rfl
      | some b => rw [hx] at hk; simpa using hk
    have hst := hstep (fun k => listed.getD k true) i o hoi hl (fun j oj hj hlj e he hb => up _ (hcl j oj hj hlj e he hb)) (fun e he hb => up _ (hdeps e he hb))
    rw [← eM] at hst
    generalize hm1 : M (fun k => listed.getD k true) = m at hst hm hrep hps
    generalize hm2 : M (fun k => (listed.setIfInBounds i true).getD k true) = m' at hst
    have putrep : ∀ (ρ' : Rho) (w' : World) (u : Value), MExt w0 R0 ρ w m ρ' w' m' → Rep (RO w0 R0 ρ' w' m') ρ' m'.next w' (vals i) u → ∀ t, Rep (RO w0 R0 ρ' w' m') ρ' m'.next w' (cur all fr vals (fun k => (listed.setIfInBounds i true).getD k true) all.length t) ((a.put o.dst u).tmps.getD t Go.undef) := by
      intro ρ' w' u he hu t
      rw [hcur t]
      have h1 : ∀ d, o.dst = some d → d < a.tmps.size := fun d hd' => by rw [← hs, ← hsize i (by omega)]; exact hfs.2.1 d hd'
      cases hdst : o.dst with
      | none => simpa [Act.put] using Rep.mono he _ _ (hrep t)
      | some d =>
        have hlt := h1 d hdst
        by_cases ht : d = t
        · subst ht
          simp [Act.put, Array.getElem?_setIfInBounds, hlt]; exact hu
        · have : ¬ (some d = some t) := fun e => ht (by injection e)
          rw [if_neg this]
          have h2 := Rep.mono he _ _ (hrep t)
          simpa [Act.put, Array.getElem?_setIfInBounds_ne ht] using h2
    have putsize : ∀ u, fr.size = (a.put o.dst u).tmps.size := fun u => by rw [hs]; cases o.dst <;> simp [Act.put]
    -- the operation itself
    unfold wpOp
    rw [ho]
    dsimp only
    have hyield : ∀ g, gval all (frs i).get o = some g → Region.wanted o (yielded all.toArray a.tmps) = g := fun g hg =>
      yielded_of (R := RO w0 R0 ρ w m) (ρ := ρ) (n := m.next) (w := w) (fun j want d hgd hdd => by rw [← looks d (looks_guard hgd (by simpa using hdd))]; exact hrep d) hg
    rcases hst with (⟨hg, hsem⟩ | ⟨hg, hv, hmm⟩) | ⟨t, k, r, hop, hgd, hrow, hvk, hk0, hk1, hk2, hk3, hk4, hk5, hk6⟩
    · rw [hyield _ hg, if_pos rfl]
      -- its operands agree with the text's frame
      have heb2 : ∀ x ∈ o.op.operands, Rep (RO w0 R0 ρ w m) ρ m.next w (evalIn (frs i) x) (a.eval x) := by
        intro x hx
        cases x with
        | tmp t =>
          show Rep _ _ _ _ ((frs i).get t) _
          rw [← looks t (looks_operand hx)]
          exact hrep t
        | const v => exact ofVal_rep v _ _ _ _
        | global g => exact rfl
        | func f => exact ⟨[], [], rfl, rfl, rfl⟩
      refine .inl ?_
      unfold Oper.wp
      refine upon_of_post (fun u w' hu => ?_) (hsem w0 R0 ρ w a.eval hm heb2)
      obtain ⟨ρ', g1, g2, g3⟩ := hu
      exact ih _ ρ' w' _ (by simpa using hsz) hun' hcl' (by rw [hm2]; exact g1) (putsize u) (by rw [put_defers]; exact hd) (by rw [hm2]; exact putrep ρ' w' u g2 g3) (by rw [hm2]; exact hΨ _ _ _ _ _ _ hps g2)
    · rw [hyield _ hg]
      subst hmm
      simp only [Bool.false_eq_true, if_false]
      exact ih _ ρ w _ (by simpa using hsz) hun' hcl' (by rw [hm2]; exact hm) (putsize _) (by rw [put_defers]; exact hd) (by rw [hm2]; exact putrep ρ w Go.undef (Ext.refl _ _ _ _) (by rw [hv]; rfl)) (by rw [hm2]; exact hps)
    · -- a new variable
      rw [hyield true (by unfold gval; rw [hgd]), if_pos rfl]
      obtain ⟨z, hz1, hz2, _⟩ := run_zero' hrow
      obtain ⟨b1, b2, b3⟩ := hm.allocAt hk1 hk2 hk6 (arr := z.cells) (e := t) hk3 hk4 hz2
      refine .inl ?_
      unfold Oper.wp
      have hpost : OpPost P (fun u w' => u = .pointer (some ⟨w.heap.size, 0, none⟩) ∧ w' = w.alloc (.cells z.cells t)) ((Go.execOp a.eval o).run P w) := by
        obtain ⟨dst, op, ty, pos, after, guard⟩ := o
        dsimp only at hop
        subst hop
        exact post_value (u := .pointer (some ⟨w.heap.size, 0, none⟩)) (w' := w.alloc (.cells z.cells t)) (by simp [Instr.alloc, hz1, newVar, newRow]) ⟨rfl, rfl⟩
      refine upon_of_post (fun u w' hu => ?_) hpost
      obtain ⟨rfl, rfl⟩ := hu
      refine ih _ (upd ρ k (w.heap.size, 0, 0)) _ _ (by simpa using hsz) hun' hcl' (by rw [hm2]; exact b1) (putsize _) (by rw [put_defers]; exact hd) (fun t' => ?_) (by rw [hm2]; exact hΨa _ _ _ _ _ _ _ hk0 hps hk4 b2)
      rw [hm2, hcur t']
      have h1 : ∀ d, o.dst = some d → d < a.tmps.size := fun d hd' => by rw [← hs, ← hsize i (by omega)]; exact hfs.2.1 d hd'
      have old := fun t' => b3 _ _ (hk5 t') (hrep t')
      cases hdst : o.dst with
      | none => simpa [Act.put] using old t'
      | some d =>
        have hlt := h1 d hdst
        by_cases ht : d = t'
        · subst ht
          simp [Act.put, Array.getElem?_setIfInBounds, hlt]
          rw [hvk]
          exact ⟨by rw [hk4]; exact hk1, by rw [upd_same]⟩
        · have : ¬ (some d = some t') := fun e => ht (by injection e)
          rw [if_neg this]
          simpa [Act.put, Array.getElem?_setIfInBounds_ne ht] using old t'

/-! ### The memory when a set has been carried out -/

theorem pure_quiet {o : Op} (h : pureOp o = true) : quiet E o = true := by cases o <;> first | rfl | (cases h; done)
theorem shape_quiet {o : Op} (h : shapeOp o = true) : quiet E o = true := by
  cases o <;> first
    | rfl
    | (cases h; done)
    | (rename_i c; obtain ⟨ca, aa, ta⟩ := c; cases ca <;> first | (cases h; done) | (rename_i b; cases b <;> first | rfl | (cases h; done)))
theorem pure_writer {o : Op} (h : pureOp o = true) : writer o = false := by cases o <;> first | rfl | (cases h; done)
theorem shape_writer {o : Op} (h : shapeOp o = true) : writer o = false := by cases o <;> first | rfl | (cases h; done)
theorem store_writer {o : Op} (h : isStore o = true) : writer o = true := by simp [writer, h]

structure Wet (E : Env) (all : List Oper) (al : Bool) (a : Nat) : Prop where
  pre : ∀ (i : Nat) (o : Oper), i < a → all[i]? = some o → writer o.op = false ∧ wetPre E al o.op = true
  head : ∀ (o : Oper), all[a]? = some o → writer o.op = true ∧ isAlloc o.op = al
  post : ∀ (i : Nat) (o : Oper), a < i → all[i]? = some o → wetPost al o.op = true
  pairs : ∀ (j : Nat) (oj : Oper), all[j]? = some oj → isStore oj.op = true → ∀ (i : Nat) (oi : Oper), i < j → all[i]? = some oi → pureOp oi.op = true ∨ shapeOp oi.op = true ∨ boundTo all 3 oj i = true

theorem wetGo_spec {al : Bool} : ∀ (l : List Oper), wetGo E al l = true → ∃ a, (∀ (i : Nat) (o : Oper), i < a → l[i]? = some o → writer o.op = false ∧ wetPre E al o.op = true) ∧ (∀ (o : Oper), l[a]? = some o → writer o.op = true ∧ isAlloc o.op = al) ∧ ∀ (i : Nat) (o : Oper), a < i → l[i]? = some o → wetPost al o.op = true
  | [], _ => ⟨0, fun i o h => absurd h (Nat.not_lt_zero _), fun o h => (by cases h), fun i o _ h => (by cases h)⟩
  | o :: os, h => by
    change (match writer o.op with | true => (isAlloc o.op == al) && os.all fun o => wetPost al o.op | false => wetPre E al o.op && wetGo E al os) = true at h
    split at h
    · rename_i hw
      simp only [Bool.and_eq_true, beq_iff_eq, List.all_eq_true] at h
      refine ⟨0, fun i o h => absurd h (Nat.not_lt_zero _), fun o' h' => ?_, fun i o' hi h' => ?_⟩
      · simp at h'; subst h'; exact ⟨hw, h.1⟩
      · cases i with
        | zero => cases hi
        | succ i => exact h.2 o' (List.mem_of_getElem? (by simpa using h'))
    · rename_i hw
      simp only [Bool.and_eq_true] at h
      obtain ⟨a, h1, h2, h3⟩ := wetGo_spec os h.2
      refine ⟨a + 1, fun i o' hi h' => ?_, fun o' h' => h2 o' (by simpa using h'), fun i o' hi h' => ?_⟩
      · cases i with
        | zero => simp at h'; subst h'; exact ⟨hw, h.1⟩
        | succ i => exact h1 i o' (by omega) (by simpa using h')
      · cases i with
        | zero => omega
        | succ i => exact h3 i o' (by omega) (by simpa using h')

theorem wetB_spec {all : List Oper} (h : wetB E all = true) : ∃ al a, Wet E all al a := by
  simp only [wetB, Bool.and_eq_true, Bool.or_eq_true] at h
  have hp : ∀ (j : Nat) (oj : Oper), all[j]? = some oj → isStore oj.op = true → ∀ (i : Nat) (oi : Oper), i < j → all[i]? = some oi → pureOp oi.op = true ∨ shapeOp oi.op = true ∨ boundTo all 3 oj i = true := by
    intro j oj hj hs i oi hij hi
    have h2 := h.2
    simp only [wetPairs, List.all_eq_true] at h2
    have h3 := h2 (oj, j) (List.mem_zipIdx_iff_getElem?.2 hj)
    simp only [hs, Bool.not_true, Bool.false_or, List.all_eq_true] at h3
    have h4 := h3 (oi, i) (List.mem_zipIdx_iff_getElem?.2 hi)
    have hb : Nat.blt i j = true := by rw [Nat.blt_eq]; exact hij
    simp only [hb, Bool.not_true, Bool.false_or, Bool.or_eq_true] at h4
    rcases h4 with h4 | h4 | h4
    · exact .inl h4
    · exact .inr (.inl h4)
    · exact .inr (.inr h4)
  rcases h.1 with h1 | h1 <;> obtain ⟨a, g1, g2, g3⟩ := wetGo_spec all h1
  · exact ⟨false, a, g1, g2, g3, hp⟩
  · exact ⟨true, a, g1, g2, g3, hp⟩

noncomputable def curM (all : List Oper) (ms : Nat → Mem) (S : Nat → Bool) : Nat → Mem
  | 0 => ms 0
  | n + 1 => if S n = true ∧ (all[n]?).any (fun o => writer o.op) = true then ms (n + 1) else curM all ms S n

theorem curM_congr {all : List Oper} {ms : Nat → Mem} {S S' : Nat → Bool} : ∀ (n : Nat), (∀ k, k < n → (all[k]?).any (fun o => writer o.op) = true → S k = S' k) → curM all ms S n = curM all ms S' n
  | 0, _ => rfl
  | n + 1, h => by
    have ih := curM_congr (ms := ms) n (fun k hk => h k (by omega))
    simp only [curM, ih]
    by_cases hw : (all[n]?).any (fun o => writer o.op) = true
    · rw [h n (by omega) hw]
    · simp [hw]

theorem curM_past {all : List Oper} {ms : Nat → Mem} {S : Nat → Bool} {i : Nat} : ∀ (n : Nat), i ≤ n → (∀ k, i ≤ k → k < n → (all[k]?).any (fun o => writer o.op) = true → S k = false) → curM all ms S n = curM all ms S i
  | 0, h, _ => by rw [show i = 0 by omega]
  | n + 1, h, hk => by
    by_cases he : i = n + 1
    · rw [he]
    · have ih := curM_past (ms := ms) n (by omega) (fun k h1 h2 => hk k h1 (by omega))
      simp only [curM]
      by_cases hw : (all[n]?).any (fun o => writer o.op) = true
      · rw [hk n (by omega) (by omega) hw]; simpa using ih
      · simp [hw]; exact ih

theorem curM_some {all : List Oper} {ms : Nat → Mem} {S : Nat → Bool} : ∀ (n : Nat), n ≤ all.length → ∃ k, k ≤ n ∧ curM all ms S n = ms k ∧ (k = 0 ∨ ∃ j o, k = j + 1 ∧ S j = true ∧ all[j]? = some o ∧ writer o.op = true)
  | 0, _ => ⟨0, Nat.le_refl _, rfl, .inl rfl⟩
  | n + 1, h => by
    simp only [curM]
    split
    · rename_i hc
      refine ⟨n + 1, Nat.le_refl _, rfl, .inr ⟨n, all[n], rfl, hc.1, List.getElem?_eq_getElem h, ?_⟩⟩
      have := hc.2
      rw [List.getElem?_eq_getElem h] at this
      simpa using this
    · obtain ⟨k, h1, h2, h3⟩ := curM_some (all := all) (ms := ms) (S := S) n (by omega)
      exact ⟨k, by omega, h2, h3⟩

/-- All of the text's operations carried out: the text's memory. -/
theorem curM_all {all : List Oper} {ms : Nat → Mem} (hk : ∀ (i : Nat) (o : Oper), all[i]? = some o → writer o.op = false → ms (i + 1) = ms i) {S : Nat → Bool} : ∀ (n : Nat), n ≤ all.length → (∀ k, k < n → (all[k]?).any (fun o => writer o.op) = true → S k = true) → curM all ms S n = ms n
  | 0, _, _ => rfl
  | n + 1, h, hS => by
    simp only [curM]
    have ho : all[n]? = some all[n] := List.getElem?_eq_getElem h
    by_cases hw : writer all[n].op = true
    · rw [if_pos ⟨hS n (by omega) (by rw [ho]; simpa using hw), by rw [ho]; simpa using hw⟩]
    · rw [if_neg (fun hc => hw (by have := hc.2; rw [ho] at this; simpa using this)), curM_all (all := all) hk n (by omega) (fun k hk => hS k (by omega)), hk n _ ho (by simpa using hw)]

theorem bound_in {all : List Oper} {S : Nat → Bool} (hcl : ∀ (j : Nat) (oj : Oper), all[j]? = some oj → S j = true → ∀ e ∈ oj.after, Region.binds .any e = true → S e.on = true) :
    ∀ (n : Nat) (o : Oper) (i : Nat), (∀ e ∈ o.after, Region.binds .any e = true → S e.on = true) → boundTo all n o i = true → S i = true
  | 0, o, i, ho, h => by
    simp only [boundTo, List.any_eq_true, Bool.and_eq_true] at h
    obtain ⟨e, he, hb, hon⟩ := h
    have := ho e (by simpa using he) hb
    rw [Nat.eq_of_beq_eq_true hon] at this; exact this
  | n + 1, o, i, ho, h => by
    unfold boundTo at h
    rcases Bool.or_eq_true _ _ ▸ h with h | h
    · exact bound_in hcl n o i ho h
    · simp only [List.any_eq_true, Bool.and_eq_true] at h
      obtain ⟨e, he, hb, hx⟩ := h
      split at hx
      · rename_i o' ho'
        rw [nth_eq] at ho'
        have hS := ho e (by simpa using he) hb
        exact bound_in hcl n o' i (fun e' he' hb' => hcl e.on o' ho' hS e' he' hb') hx
      · cases hx

theorem wet_keep {all : List Oper} {m m' : Mem} {fr fr' : Fr} {frs : Nat → Fr} {vals : Nat → SV} {ms : Nat → Mem} (hw : WalkM P E all m m' fr fr' frs vals ms) {al : Bool} {a : Nat} (hwet : Wet E all al a) (k : Nat) (o : Oper) (ho : all[k]? = some o) (hwr : writer o.op = false) : ms (k + 1) = ms k := by
  refine (hw.more k o ho).quiet rfl ?_
  rcases Nat.lt_trichotomy k a with h | h | h
  · have := (hwet.pre k o h ho).2
    simp only [wetPre, Bool.and_eq_true] at this; exact this.1
  · subst h; rw [(hwet.head o ho).1] at hwr; cases hwr
  · have := hwet.post k o h ho
    simp only [wetPost, Bool.or_eq_true, Bool.and_eq_true] at this
    rcases this with h1 | h1 | h1
    · exact pure_quiet h1
    · rw [store_writer h1] at hwr; cases hwr
    · exact shape_quiet h1.1

theorem wet_step {all : List Oper} {m m' : Mem} {fr fr' : Fr} {frs : Nat → Fr} {vals : Nat → SV} {ms : Nat → Mem} (hw : WalkM P E all m m' fr fr' frs vals ms) {al : Bool} {a : Nat} (hwet : Wet E all al a) (hfresh : m.get m.next = none)
    (S : Nat → Bool) (i : Nat) (o : Oper) (hoi : all[i]? = some o) (hSi : S i = false) (hcl : ∀ (j : Nat) (oj : Oper), all[j]? = some oj → S j = true → ∀ e ∈ oj.after, Region.binds .any e = true → S e.on = true) (hready : ∀ e ∈ o.after, Region.binds .any e = true → S e.on = true) :
    StepOK P all o (frs i) (curM all ms S all.length) (vals i) (curM all ms (fun k => if k = i then true else S k) all.length) := by
  have hil : i < all.length := (List.getElem?_eq_some_iff.1 hoi).1
  have hkeep : ∀ (k : Nat) (o : Oper), all[k]? = some o → writer o.op = false → ms (k + 1) = ms k := fun k o ho hwr => wet_keep hw hwet k o ho hwr
  have hisw : ∀ {k : Nat} {o : Oper}, all[k]? = some o → ((all[k]?).any (fun o => writer o.op) = true ↔ writer o.op = true) := fun {k o} ho => by rw [ho]; simp
  -- the memory ahead of the first writer is the first one
  have hms0 : ∀ k, k ≤ a → k ≤ all.length → ms k = m := by
    intro k
    induction k with
    | zero => intro _ _; exact hw.mfirst
    | succ k ih =>
      intro h1 h2
      have ho : all[k]? = some all[k] := List.getElem?_eq_getElem h2
      rw [hkeep k _ ho (hwet.pre k _ (by omega) ho).1]
      exact ih (by omega) (by omega)
  -- a writer behind the first is a store
  have hstore : ∀ (k : Nat) (o : Oper), a < k → all[k]? = some o → writer o.op = true → isStore o.op = true := by
    intro k o h ho hwr
    have := hwet.post k o h ho
    simp only [wetPost, Bool.or_eq_true, Bool.and_eq_true] at this
    rcases this with h1 | h1 | h1
    · rw [pure_writer h1] at hwr; cases hwr
    · exact h1
    · rw [shape_writer h1.1] at hwr; cases hwr
  have notps : ∀ {o : Oper}, writer o.op = true → ¬ (pureOp o.op = true ∨ shapeOp o.op = true) := fun {o} hwr h => by
    rcases h with h | h
    · rw [pure_writer h] at hwr; cases hwr
    · rw [shape_writer h] at hwr; cases hwr
  -- whatever is no reader of nothing waits ahead of a store that is listed
  have hwait : ∀ (j : Nat) (oj : Oper) (k : Nat) (ok : Oper), all[j]? = some oj → isStore oj.op = true → S j = true → k < j → all[k]? = some ok → ¬ (pureOp ok.op = true ∨ shapeOp ok.op = true) → S k = true := by
    intro j oj k ok hj hs hSj hkj hk hn
    rcases hwet.pairs j oj hj hs k ok hkj hk with h | h | h
    · exact absurd (.inl h) hn
    · exact absurd (.inr h) hn
    · exact bound_in hcl 3 oj k (fun e he hb => hcl j oj hj hSj e he hb) h
  by_cases hwr : writer o.op = true
  · -- a writer: those ahead of it are listed, those behind it are not
    have hahead : ∀ k, k < i → (all[k]?).any (fun o => writer o.op) = true → S k = true := by
      intro k hk hkw
      have hkl : k < all.length := by omega
      have ho : all[k]? = some all[k] := List.getElem?_eq_getElem hkl
      have hkw' := (hisw ho).1 hkw
      have hia : a < i := by
        rcases Nat.lt_or_ge k a with h | h
        · rw [(hwet.pre k _ h ho).1] at hkw'; cases hkw'
        · omega
      rcases hwet.pairs i o hoi (hstore i o hia hoi hwr) k _ hk ho with h | h | h
      · exact absurd (.inl h) (notps hkw')
      · exact absurd (.inr h) (notps hkw')
      · exact bound_in hcl 3 o k hready h
    have hbehind : ∀ k, i < k → k < all.length → (all[k]?).any (fun o => writer o.op) = true → S k = false := by
      intro k hk hkl hkw
      have ho : all[k]? = some all[k] := List.getElem?_eq_getElem hkl
      have hkw' := (hisw ho).1 hkw
      have hai : a ≤ i := by
        rcases Nat.lt_or_ge i a with h | h
        · rw [(hwet.pre i _ h hoi).1] at hwr; cases hwr
        · exact h
      rcases Bool.eq_false_or_eq_true (S k) with h | h
      · have := hwait k _ i o ho (hstore k _ (by omega) ho hkw') h hk hoi (notps hwr)
        rw [hSi] at this; cases this
      · exact h
    have e1 : curM all ms S all.length = ms i := by
      rw [curM_past (i := i) all.length (by omega) (fun k h1 h2 h3 => ?_), curM_all hkeep i (by omega) hahead]
      by_cases hki : k = i
      · rw [hki]; exact hSi
      · exact hbehind k (by omega) h2 h3
    have e2 : curM all ms (fun k => if k = i then true else S k) all.length = ms (i + 1) := by
      rw [curM_past (i := i + 1) all.length (by omega) (fun k h1 h2 h3 => ?_), curM_all hkeep (i + 1) (by omega) (fun k h1 h2 => ?_)]
      · by_cases hki : k = i
        · rw [if_pos hki]
        · rw [if_neg hki]; exact hahead k (by omega) h2
      · rw [if_neg (by omega)]; exact hbehind k (by omega) h2 h3
    rw [e1, e2]
    exact hw.step i o hoi
  · -- no writer: the memory stays
    have hwr' : writer o.op = false := by simpa using hwr
    have e2 : curM all ms (fun k => if k = i then true else S k) all.length = curM all ms S all.length := by
      refine curM_congr _ fun k hk hkw => ?_
      by_cases hki : k = i
      · subst hki; exact absurd ((hisw hoi).1 hkw) hwr
      · simp [hki]
    rw [e2]
    rcases hw.step i o hoi with ⟨hg, hsem⟩ | ⟨hg, hv, _⟩
    · refine .inl ⟨hg, ?_⟩
      have hx := (hw.more i o hoi).more hg
      obtain ⟨k, hkl, hkm, hk0⟩ := curM_some (all := all) (ms := ms) (S := S) all.length (Nat.le_refl _)
      rw [hkm]
      by_cases hp : pureOp o.op = true
      · exact hx.pure hp _
      -- how the memories look
      have fwd : ∀ k, k ≤ all.length → Shape m (ms k) := by
        intro k
        induction k with
        | zero => intro _; rw [hw.mfirst]; exact Shape.refl m
        | succ k ih =>
          intro hk
          have ho : all[k]? = some all[k] := List.getElem?_eq_getElem hk
          refine (ih (by omega)).trans ?_
          by_cases hkw : writer all[k].op = true
          · by_cases hka : k = a
            · subst hka
              by_cases hst : isStore all[k].op = true
              · exact ((hw.more k _ ho).store hst).1
              · have hal : isAlloc all[k].op = true := by
                  simp only [writer, Bool.or_eq_true] at hkw
                  exact hkw.resolve_left hst
                refine ((hw.more k _ ho).alloc hal ?_).shape
                rw [hms0 k (Nat.le_refl _) (by omega)]; exact hfresh
            · have hak : a < k := by
                rcases Nat.lt_or_ge k a with h | h
                · rw [(hwet.pre k _ h ho).1] at hkw; cases hkw
                · omega
              exact ((hw.more k _ ho).store (hstore k _ hak ho hkw)).1
          · rw [hkeep k _ ho (by simpa using hkw)]; exact Shape.refl _
      by_cases hs : shapeOp o.op = true
      · refine hx.shape hs _ ?_
        by_cases hia : i ≤ a
        · rw [hms0 i hia (by omega)]; exact fwd k hkl
        · -- behind the first writer there is no allocation
          have hpo := hwet.post i o (by omega) hoi
          simp only [wetPost, Bool.or_eq_true, Bool.and_eq_true] at hpo
          have hal : al = false := by
            rcases hpo with h1 | h1 | h1
            · exact absurd h1 hp
            · rw [store_writer h1] at hwr'; cases hwr'
            · simpa using h1.2
          have bwd : ∀ k, k ≤ all.length → Shape (ms k) m := by
            intro k
            induction k with
            | zero => intro _; rw [hw.mfirst]; exact Shape.refl m
            | succ k ih =>
              intro hk
              have ho : all[k]? = some all[k] := List.getElem?_eq_getElem hk
              refine Shape.trans ?_ (ih (by omega))
              by_cases hkw : writer all[k].op = true
              · have hst : isStore all[k].op = true := by
                  rcases Nat.lt_trichotomy k a with h | h | h
                  · rw [(hwet.pre k _ h ho).1] at hkw; cases hkw
                  · subst h
                    have := (hwet.head _ ho).2
                    rw [hal] at this
                    simp only [writer, Bool.or_eq_true, this] at hkw
                    exact hkw.resolve_right (by simp)
                  · exact hstore k _ h ho hkw
                exact ((hw.more k _ ho).store hst).2
              · rw [hkeep k _ ho (by simpa using hkw)]; exact Shape.refl _
          exact (bwd i (by omega)).trans (fwd k hkl)
      -- a reader: no store is listed
      have hia : i < a := by
        rcases Nat.lt_trichotomy i a with h | h | h
        · exact h
        · subst h; rw [(hwet.head o hoi).1] at hwr'; cases hwr'
        · have hpo := hwet.post i o h hoi
          simp only [wetPost, Bool.or_eq_true, Bool.and_eq_true] at hpo
          rcases hpo with h1 | h1 | h1
          · exact absurd h1 hp
          · rw [store_writer h1] at hwr'; cases hwr'
          · exact absurd h1.1 hs
      have hmi := hms0 i (by omega) (by omega)
      have nostore : ∀ (j : Nat) (oj : Oper), all[j]? = some oj → S j = true → isStore oj.op = true → False := by
        intro j oj hj hSj hst
        have hij : i < j := by
          rcases Nat.lt_or_ge j a with h | h
          · have h1 := (hwet.pre j oj h hj).1
            rw [store_writer hst] at h1; cases h1
          · omega
        have := hwait j oj i o hj hst hSj hij hoi (fun h => h.elim hp hs)
        rw [hSi] at this; cases this
      rcases hk0 with rfl | ⟨j, oj, rfl, hSj, hj, hjw⟩
      · rw [hw.mfirst, ← hmi]
        have hst2 : ms (i + 1) = ms i := hkeep i o hoi hwr'
        rw [hst2] at hsem
        exact hsem
      · have hja : j = a := by
          rcases Nat.lt_trichotomy j a with h | h | h
          · rw [(hwet.pre j oj h hj).1] at hjw; cases hjw
          · exact h
          · exact (nostore j oj hj hSj (hstore j oj h hj hjw)).elim
        subst hja
        have hal : isAlloc oj.op = true := by
          simp only [writer, Bool.or_eq_true] at hjw
          exact hjw.resolve_left fun h => nostore j oj hj hSj h
        have halt : al = true := by rw [← (hwet.head oj hj).2]; exact hal
        have hpre := (hwet.pre i o hia hoi).2
        simp only [wetPre, halt, Bool.and_eq_true, Bool.not_true, Bool.false_or, Bool.or_eq_true] at hpre
        have hup : upOp o.op = true := by
          rcases hpre.2 with h | h | h
          · exact absurd h hp
          · exact absurd h hs
          · exact h
        refine hx.up rfl hup _ ?_
        have hmj := hms0 j (Nat.le_refl _) (by omega)
        rw [hmi, ← hmj]
        refine (hw.more j oj hj).alloc hal ?_
        rw [hmj]; exact hfresh
    · exact .inr ⟨hg, hv, rfl⟩
end
end Go.Sx
