/-
  Sx10: lengths, the least and the greatest, what is built and made, ranges over strings, new variables.
-/
import Derived.Test.YtibpodgdondakaaSx9
import Derived.Great.FillDense
set_option linter.unusedSimpArgs false
set_option linter.unusedVariables false
namespace Go.Sx
open Go.RowKit
section
variable {P : Program} {E : Env} {α : Type} {L : α → Prop}

theorem lenOf_run {m : Mem} {x : SV} {n : Nat} (h : lenOf m x = some n) {m2 : Mem} (hsh : Shape m m2) {w0 : World} {R0 : Nat → Prop} {ρ : Rho} {w : World} {xv : Value} (hm : MRel w0 R0 ρ w m2) (hx : Rep (RO w0 R0 ρ w m2) ρ m2.next w x xv) :
    ∃ a c, xv = .slice a n c := by
  cases x <;> simp only [lenOf] at h <;> try (cases h; done)
  case nilS => injection h with h; subst h; exact ⟨_, _, hx⟩
  case list t l =>
    injection h with h; subst h
    obtain ⟨A, cap, hxv, _⟩ := hx
    injection hxv with hxv
    exact ⟨_, _, hxv⟩
  case row id =>
    split at h
    · rename_i t l hg
      injection h with h; subst h
      obtain ⟨hid, a, rfl, _⟩ := hx
      obtain ⟨B', hg2, hl⟩ := hsh id _ hg
      cases B' <;> try exact hl.elim
      obtain ⟨rfl, hll⟩ := hl
      obtain ⟨b1, _⟩ := hm.box id _ hg2
      rw [← hll] at b1
      exact ⟨a, (ρ id).2.2, by rw [b1]⟩
    · cases h
  case arr id off k => injection h with h; subst h; exact ⟨_, _, hx.2⟩

theorem opLen_sound (hE : EOK P E) {t : TypeId} {x : SV} {p : Plan} {m : Mem} {κ : Kont α} (h : (opLen E t x p m κ).holds L) :
    ∃ v, (κ v p m).holds L ∧ ∀ m2, Shape m m2 → ∀ (ts : Array TypeId) ty w0 R0 ρ w (xv : Value), ts[0]? = some t → MRel w0 R0 ρ w m2 → Rep (RO w0 R0 ρ w m2) ρ m2.next w x xv → Plainly P m2 v (Builtin.len_ ts ty #[xv]) w0 R0 ρ w := by
  unfold opLen at h
  split at h
  · rename_i r hr
    have hu := (hE.row _ _ hr).und
    split at h
    · rename_i n e hd
      rw [hd] at hu
      refine ⟨_, h, fun m2 hsh ts ty w0 R0 ρ w xv ht hm hx => ⟨_, ?_, rfl⟩⟩
      cases xv <;> simp [Builtin.len_, ht, run_underlying hu, goInt]
    · rename_i hd
      rw [hd] at hu
      split at h
      · rename_i s
        refine ⟨_, h, fun m2 hsh ts ty w0 R0 ρ w xv ht hm hx => ⟨_, ?_, rfl⟩⟩
        rw [show xv = _ from hx]
        simp only [Builtin.len_, ht, Array.getElem?_eq_getElem (show 0 < (#[Value.string ⟨⟨s⟩⟩]).size by simp), Sem.run_bind, run_underlying hu, Result.andThen_ok]
        rfl
      · exact h.elim
    · rename_i e hd
      rw [hd] at hu
      split at h
      · rename_i n hn
        refine ⟨_, h, fun m2 hsh ts ty w0 R0 ρ w xv ht hm hx => ⟨_, ?_, rfl⟩⟩
        obtain ⟨a, c, rfl⟩ := lenOf_run hn hsh hm hx
        simp [Builtin.len_, ht, run_underlying hu, goInt]
      · exact h.elim
    · exact h.elim
  · exact h.elim

theorem maxAll_run {R : Nat → Prop} {ρ : Rho} {n : Nat} {w : World} : ∀ (vs : List SV) (x v : SV) (us : List Value) (u : Value), maxAll x vs = some v → Rep R ρ n w x u → RepL R ρ n w vs us → ∃ y, (us.foldlM Builtin.max2 u).run P w = .ok y w ∧ Rep R ρ n w v y
  | [], x, v, us, u, h, hx, hv => by
    rw [show us = [] from hv]
    simp only [maxAll] at h; injection h with h; subst h
    exact ⟨u, rfl, hx⟩
  | y :: vs, x, v, us, u, h, hx, hv => by
    obtain ⟨b, bs, rfl, h1, h2⟩ := hv
    unfold maxAll at h
    split at h
    · rename_i heq; cases heq
    · rename_i heq
      injection heq with e1 e2
      subst e1 e2
      rw [show u = _ from hx, show b = _ from h1]
      obtain ⟨z, h3, h4⟩ := maxAll_run vs _ v bs _ h rfl h2
      exact ⟨z, by simp only [List.foldlM_cons, Builtin.max2, pure_bind]; exact h3, h4⟩
    · cases h
theorem minAll_run {R : Nat → Prop} {ρ : Rho} {n : Nat} {w : World} : ∀ (vs : List SV) (x v : SV) (us : List Value) (u : Value), minAll x vs = some v → Rep R ρ n w x u → RepL R ρ n w vs us → ∃ y, (us.foldlM Builtin.min2 u).run P w = .ok y w ∧ Rep R ρ n w v y
  | [], x, v, us, u, h, hx, hv => by
    rw [show us = [] from hv]
    simp only [minAll] at h; injection h with h; subst h
    exact ⟨u, rfl, hx⟩
  | y :: vs, x, v, us, u, h, hx, hv => by
    obtain ⟨b, bs, rfl, h1, h2⟩ := hv
    unfold minAll at h
    split at h
    · rename_i heq; cases heq
    · rename_i heq
      injection heq with e1 e2
      subst e1 e2
      rw [show u = _ from hx, show b = _ from h1]
      obtain ⟨z, h3, h4⟩ := minAll_run vs _ v bs _ h rfl h2
      exact ⟨z, by simp only [List.foldlM_cons, Builtin.min2, pure_bind]; exact h3, h4⟩
    · cases h

theorem opBuiltin_sound (hE : EOK P E) {b : Builtin} {ts : List TypeId} {vs : List SV} {p : Plan} {m : Mem} {κ : Kont α} (h : (opBuiltin E b ts vs p m κ).holds L) :
    ∃ v p' m', (κ v p' m').holds L ∧ (b ≠ .append → m' = m) ∧ (b = .len → ∀ m2, Shape m m2 → ∀ ty cs w0 R0 ρ w (us : List Value), MRel w0 R0 ρ w m2 → RepL (RO w0 R0 ρ w m2) ρ m2.next w vs us →
      ∃ u w', (Go.builtin b ts.toArray ty cs us.toArray).run P w = .ok (.value u) w' ∧ OpOut w0 R0 ρ w m2 v m2 u w') ∧ ∀ ty cs w0 R0 ρ w (us : List Value), MRel w0 R0 ρ w m → RepL (RO w0 R0 ρ w m) ρ m.next w vs us →
      ∃ u w', (Go.builtin b ts.toArray ty cs us.toArray).run P w = .ok (.value u) w' ∧ OpOut w0 R0 ρ w m v m' u w' := by
  unfold opBuiltin at h
  split at h
  · rename_i t x
    obtain ⟨v, h1, h2⟩ := opLen_sound hE h
    have key : ∀ m2, Shape m m2 → ∀ ty (cs : Array Bool) w0 R0 ρ w (us : List Value), MRel w0 R0 ρ w m2 → RepL (RO w0 R0 ρ w m2) ρ m2.next w [x] us →
      ∃ u w', (Go.builtin .len [t].toArray ty cs us.toArray).run P w = .ok (.value u) w' ∧ OpOut w0 R0 ρ w m2 v m2 u w' := ?key
    exact ⟨v, p, m, h1, fun _ => rfl, fun _ m2 hsh ty cs => key m2 hsh ty cs, fun ty cs => key m (Shape.refl m) ty cs⟩
    intro m2 hsh ty cs w0 R0 ρ w us hm hus
    obtain ⟨u, us', rfl, h3, h4⟩ := hus
    rw [show us' = [] from h4]
    obtain ⟨y, h5, h6⟩ := h2 m2 hsh [t].toArray ty w0 R0 ρ w u (by simp) hm h3
    have h5' : (Builtin.len_ #[t] ty #[u]).run P w = .ok y w := h5
    exact ⟨y, w, by simp [Go.builtin, h5'], OpOut.same hm h6⟩
  · rename_i t t1 s x
    have key : ∀ (hE1 : (∃ e', P.underlying t1 = some (.slice e')) ∨ P.underlying t1 = some .string), (opAppend E t s x p m κ).holds L → ∃ v p' m', (κ v p' m').holds L ∧ (Builtin.append ≠ .append → m' = m) ∧ (Builtin.append = .len → ∀ m2, Shape m m2 → ∀ ty cs w0 R0 ρ w (us : List Value), MRel w0 R0 ρ w m2 → RepL (RO w0 R0 ρ w m2) ρ m2.next w [s, x] us →
      ∃ u w', (Go.builtin .append [t, t1].toArray ty cs us.toArray).run P w = .ok (.value u) w' ∧ OpOut w0 R0 ρ w m2 v m2 u w') ∧ ∀ ty cs w0 R0 ρ w (us : List Value), MRel w0 R0 ρ w m → RepL (RO w0 R0 ρ w m) ρ m.next w [s, x] us →
      ∃ u w', (Go.builtin .append [t, t1].toArray ty cs us.toArray).run P w = .ok (.value u) w' ∧ OpOut w0 R0 ρ w m v m' u w' := by
      intro hE1 h
      obtain ⟨v, p', m', h1, h2⟩ := opAppend_sound hE h
      refine ⟨v, p', m', h1, fun hn => absurd rfl hn, (fun hn => by cases hn), fun ty cs w0 R0 ρ w us hm hus => ?_⟩
      obtain ⟨u, us', rfl, h3, y, us2, rfl, h4, h5⟩ := hus
      rw [show us2 = [] from h5]
      obtain ⟨z, w', h6, h7⟩ := h2 [t, t1].toArray ty w0 R0 ρ w u y (fun e he => ⟨by simp, t1, by simp, hE1⟩) hm h3 h4
      have h6' : (Builtin.append_ #[t, t1] ty #[u, y]).run P w = .ok z w' := h6
      exact ⟨z, w', by simp [Go.builtin, h6'], h7⟩
    split at h
    · rename_i e sz by_ ze ty eg he hr
      exact key (.inl ⟨e, (hE.row _ _ hr).und⟩) h
    · rename_i sz by_ ze ty eg he hr
      exact key (.inr (hE.row _ _ hr).und) h
    · exact h.elim
  · rename_i v vs
    split at h
    · rename_i y hy
      refine ⟨y, p, m, h, fun _ => rfl, (fun hn => by cases hn), fun ty cs w0 R0 ρ w us hm hus => ?_⟩
      obtain ⟨u, us', rfl, h3, h4⟩ := hus
      obtain ⟨z, h5, h6⟩ := maxAll_run (P := P) vs v y us' u hy h3 h4
      exact ⟨z, w, by simp [Go.builtin, Builtin.max_, h5], OpOut.same hm h6⟩
    · exact h.elim
  · rename_i v vs
    split at h
    · rename_i y hy
      refine ⟨y, p, m, h, fun _ => rfl, (fun hn => by cases hn), fun ty cs w0 R0 ρ w us hm hus => ?_⟩
      obtain ⟨u, us', rfl, h3, h4⟩ := hus
      obtain ⟨z, h5, h6⟩ := minAll_run (P := P) vs v y us' u hy h3 h4
      exact ⟨z, w, by simp [Go.builtin, Builtin.min_, h5], OpOut.same hm h6⟩
    · exact h.elim
  · exact h.elim

/-! ### Structs, arrays and slices that are written out -/

theorem fill_over (cells : Array Value) (off : Nat) (vs : Array Value) (h : off + vs.toList.length ≤ cells.size) : vs.zipIdx.foldl (fun cs (c, j) => cs.setIfInBounds (off + j) c) cells = overA cells off vs.toList := by
  rw [← Array.foldl_toList, Array.toList_zipIdx]
  obtain ⟨h1, h2⟩ := Great.foldl_set off vs.toList 0 cells
  apply Array.ext_getElem?
  intro k
  rw [overA_get h]
  have := h2 k
  simp only [Nat.add_zero] at this
  rw [this]
  by_cases hk : off ≤ k ∧ k < off + vs.toList.length
  · rw [if_pos ⟨hk.1, hk.2, by omega⟩, if_pos hk]
  · rw [if_neg (fun h => hk ⟨h.1, h.2.1⟩), if_neg hk]

/-- Parts with their places. -/
def PR (R : Nat → Prop) (ρ : Rho) (n : Nat) (w : World) : List (Nat × SV) → List (Nat × Value) → Prop
  | [], vs => vs = []
  | x :: xs, vs => ∃ u us, vs = (x.1, u) :: us ∧ Rep R ρ n w x.2 u ∧ PR R ρ n w xs us

theorem PR.map {R : Nat → Prop} {ρ : Rho} {n : Nat} {w : World} (ev : Operand → SV) (eb : Operand → Value) : ∀ xs : List (Nat × Operand), (∀ x ∈ xs, Rep R ρ n w (ev x.2) (eb x.2)) → PR R ρ n w (xs.map fun x => (x.1, ev x.2)) (xs.map fun x => (x.1, eb x.2))
  | [], _ => rfl
  | x :: xs, h => ⟨_, _, rfl, h x List.mem_cons_self, PR.map ev eb xs fun y hy => h y (List.mem_cons_of_mem _ hy)⟩

theorem fillK_holds (place : Nat → Option (Nat × Nat)) : ∀ (parts : List (Nat × SV)) (cs : List SV) (k : List SV → Tree α), (fillK place cs parts k).holds L →
    ∃ cs', (k cs').holds L ∧ ∀ (R : Nat → Prop) (ρ : Rho) (n : Nat) (w : World) (vs : List (Nat × Value)) (arr : Array Value), PR R ρ n w parts vs → RepL R ρ n w cs arr.toList → ∃ arr', Instr.fill place arr vs = some arr' ∧ RepL R ρ n w cs' arr'.toList
  | [], cs, k, h => ⟨cs, h, fun R ρ n w vs arr hv hc => by rw [show vs = [] from hv]; exact ⟨arr, rfl, hc⟩⟩
  | x :: parts, cs, k, h => by
    change (match place x.1 with
      | some os => match os.2 == x.2.cells.length && all1 x.2.cells && Nat.ble 1 os.2 with
        | true => overK cs os.1 x.2.cells fun cs => fillK place cs parts k
        | false => .fail 94
      | none => .fail 95 : Tree α).holds L at h
    split at h
    · rename_i os hos
      split at h
      · rename_i hsz
        simp only [Bool.and_eq_true, beq_iff_eq, Nat.ble_eq] at hsz
        obtain ⟨⟨hs1, hs2⟩, hs3⟩ := hsz
        rcases overK_holds _ _ _ _ h with ⟨h0, _⟩ | ⟨h0, h1⟩
        · rw [h0] at hs1; simp at hs1; omega
        obtain ⟨cs', h3, h4⟩ := fillK_holds place parts _ k h1
        refine ⟨cs', h3, fun R ρ n w vs arr hv hc => ?_⟩
        obtain ⟨u, us, rfl, h5, h6⟩ := hv
        obtain ⟨h7, h8⟩ := h5.cells hs2
        have hl := h7.length
        have hal := hc.length
        have hfit : os.1 + u.cells.toList.length ≤ arr.size := by
          rw [hl]; rw [Array.length_toList] at hal; omega
        have e1 : u.cells.size = os.2 := by rw [hs1, ← hl]; simp
        have e2 : ¬ os.1 + u.cells.size > arr.size := by rw [Array.length_toList] at hfit; omega
        have e3 : ¬ os.1 + os.2 > arr.size := by rw [← e1]; exact e2
        simp only [Instr.fill, hos, e1, ne_eq, not_true_eq_false, decide_false, Bool.false_or, e3, Bool.false_eq_true, if_false]
        rw [fill_over _ _ _ hfit]
        exact h4 R ρ n w us _ h6 (over_rep hc h7)
      · exact h.elim
    · exact h.elim

theorem placesOf_run (hE : EOK P E) (w : World) : ∀ (fs : List Field) (pl : List (Nat × Nat)), placesOf E fs = some pl → (fs.mapM (fun f => do pure (f.offset, ← sizeOf f.type)) : Sem (List (Nat × Nat))).run P w = .ok pl w
  | [], pl, h => by
    have : some [] = some pl := h
    injection this with this; subst this; rfl
  | f :: fs, pl, h => by
    change (match E.row f.type, placesOf E fs with
      | some r, some l => some ((f.offset, r.size) :: l)
      | _, _ => none) = some pl at h
    split at h
    · rename_i r l hr hl
      injection h with h; subst h
      simp only [List.mapM_cons, Sem.run_bind, run_sizeOf' (hE.row _ _ hr), Result.andThen_ok, Sem.run_pure, placesOf_run hE w fs l hl]
    · cases h

theorem opBuild_sound (hE : EOK P E) {t : TypeId} {parts : List (Nat × SV)} {p : Plan} {m : Mem} {κ : Kont α} (h : (opBuild E t parts p m κ).holds L) :
    ∃ v, (κ v p m).holds L ∧ ∀ (m : Mem) w0 R0 ρ w (vs : List (Nat × Value)), PR (RO w0 R0 ρ w m) ρ m.next w parts vs → Plainly P m v (Instr.build t vs.toArray) w0 R0 ρ w := by
  unfold opBuild at h
  split at h
  · rename_i r hr
    have hok := hE.row _ _ hr
    have hu := hok.und
    obtain ⟨z, hz1, hz2, _⟩ := run_zero' hok
    split at h
    · rename_i fs hd
      rw [hd] at hu
      split at h
      · rename_i pl hpl
        obtain ⟨cs', h1, h2⟩ := fillK_holds _ _ _ _ h
        refine ⟨_, h1, fun m w0 R0 ρ w vs hv => ?_⟩
        obtain ⟨arr', h3, h4⟩ := h2 _ _ _ _ _ z.cells hv (hz2 _ _ _ _)
        have hp := placesOf_run hE w fs.toList pl hpl
        have hpl' : ∀ i, (pl.toArray[i]? : Option (Nat × Nat)) = nth pl i := fun i => by rw [nth_eq]; simp
        refine ⟨.agg arr', ?_, _, rfl, h4⟩
        simp only [Instr.build, Sem.run_bind, hz1, Result.andThen_ok, run_underlying hu]
        rw [Array.mapM_eq_mapM_toList, Sem.run_map, hp]
        simp only [Result.andThen_ok, hpl']
        rw [h3]; rfl
      · exact h.elim
    · rename_i n e hd
      rw [hd] at hu
      split at h
      · rename_i re hre
        obtain ⟨cs', h1, h2⟩ := fillK_holds _ _ _ _ h
        refine ⟨_, h1, fun m w0 R0 ρ w vs hv => ?_⟩
        obtain ⟨arr', h3, h4⟩ := h2 _ _ _ _ _ z.cells hv (hz2 _ _ _ _)
        refine ⟨.agg arr', ?_, _, rfl, h4⟩
        simp only [Instr.build, Sem.run_bind, hz1, Result.andThen_ok, run_underlying hu, run_sizeOf' (hE.row _ _ hre)]
        rw [h3]; rfl
      · exact h.elim
    · exact h.elim
  · exact h.elim

theorem repeat_rep {R : Nat → Prop} {ρ : Rho} {n : Nat} {w : World} {z : List SV} {zs : List Value} (h : RepL R ρ n w z zs) : ∀ k, RepL R ρ n w (repeatL z k) ((List.range (k * zs.length)).map fun i => zs.getD (i % zs.length) default)
  | 0 => by simp [repeatL, RepL]
  | k + 1 => by
    have ih := repeat_rep h k
    rcases Nat.eq_zero_or_pos zs.length with h0 | h0
    · have hz : z = [] := List.eq_nil_of_length_eq_zero (by rw [← h.length]; exact h0)
      have : ∀ j, repeatL z j = [] := by
        intro j; induction j with
        | zero => rfl
        | succ j ih => simp [repeatL, hz] at ih ⊢; exact ih
      rw [this, h0]; simp [RepL]
    · have e : (List.range ((k + 1) * zs.length)).map (fun i => zs.getD (i % zs.length) default) = zs ++ (List.range (k * zs.length)).map fun i => zs.getD (i % zs.length) default := by
        rw [Nat.succ_mul, Nat.add_comm, List.range_add, List.map_append, List.map_map]
        congr 1
        · apply List.ext_getElem?
          intro j
          by_cases hj : j < zs.length
          · simp [hj, Nat.mod_eq_of_lt hj]
          · simp [hj]
        · apply List.map_congr_left
          intro j _
          simp
      rw [e]
      exact h.append ih

theorem opBuildSlice_sound (hE : EOK P E) {t : TypeId} {n : Nat} {parts : List (Nat × SV)} {p : Plan} {m : Mem} {κ : Kont α} (h : (opBuildSlice E t n parts p m κ).holds L) :
    ∃ v m', (κ v p m').holds L ∧ ∀ w0 R0 ρ w (vs : List (Nat × Value)), MRel w0 R0 ρ w m → PR (RO w0 R0 ρ w m) ρ m.next w parts vs → Yields' P m v m' (Instr.buildSlice t n vs.toArray) w0 R0 ρ w := by
  unfold opBuildSlice at h
  split at h
  · rename_i e sz by_ ze ty eg he hr
    have hu := (hE.row _ _ hr).und
    dsimp only at hu
    split at h
    · rename_i re hre
      have hok := hE.row _ _ hre
      obtain ⟨z, hz1, hz2, _⟩ := run_zero' hok
      split at h
      · rename_i hs
        simp only [Bool.and_eq_true, decide_eq_true_eq] at hs
        obtain ⟨cs', h1, h2⟩ := fillK_holds _ _ _ _ h
        obtain ⟨m', h3, h4⟩ := Mem.push_holds h1
        refine ⟨_, m', h4, fun w0 R0 ρ w vs hm hv => ?_⟩
        have hzl : z.cells.toList.length = re.size := by
          rw [(hz2 (RO w0 R0 ρ w m) ρ m.next w).length]; exact hs.2
        have hrep := repeat_rep (hz2 (RO w0 R0 ρ w m) ρ m.next w) n
        -- the zero cells
        have hzero : ∃ zs : Array Value, ((n * re.size = 0 ∧ zs = #[]) ∨ (¬ n * re.size = 0 ∧ zs = z.cells)) ∧ ((Array.range (n * re.size)).map (zs[· % zs.size]!)).toList = (List.range (n * z.cells.toList.length)).map fun i => z.cells.toList.getD (i % z.cells.toList.length) default := by
          by_cases h0 : n * re.size = 0
          · refine ⟨#[], .inl ⟨h0, rfl⟩, ?_⟩
            rw [hzl, h0]; simp
          · refine ⟨z.cells, .inr ⟨h0, rfl⟩, ?_⟩
            rw [hzl]
            have hsz : z.cells.size = re.size := by rw [← hzl]; simp
            simp only [Array.toList_map, Array.toList_range]
            apply List.map_congr_left
            intro i _
            rw [hsz]
            have : re.size ≠ 0 := fun hc => h0 (by rw [hc]; simp)
            have hi : i % re.size < z.cells.size := by rw [hsz]; exact Nat.mod_lt _ (by omega)
            simp [List.getD, getElem!_pos, hi]
        obtain ⟨zs, q1, q2⟩ := hzero
        obtain ⟨arr', h5, h6⟩ := h2 _ _ _ _ _ ((Array.range (n * re.size)).map (zs[· % zs.size]!)) hv (by rw [q2]; exact hrep)
        obtain ⟨g1, g2⟩ := hm.alloc (o := .cells arr' e) h3 n n (fun R n' ρ' e' => ⟨arr', e, (0, 0), heap_alloc_new w _, unfrozen_zero _, RepL.mono e' _ _ h6⟩)
        refine ⟨.slice (some ⟨w.heap.size, 0, none⟩) n n, w.alloc (.cells arr' e), ?_, _, g1, g2, by rw [h3.2]; omega, by rw [upd_same]⟩
        have hbig : ¬ n * re.size > 2 ^ 24 := by have := hs.1; omega
        simp only [Instr.buildSlice, Sem.run_bind, run_underlying hu, Result.andThen_ok, run_sizeOf' hok, hbig, if_false, pure_bind]
        rcases q1 with ⟨h0, rfl⟩ | ⟨h0, rfl⟩
        · rw [if_pos h0, h5]
          simp [newRow]
        · rw [if_neg h0]
          simp only [Sem.run_bind, hz1, Result.andThen_ok]
          rw [h5]
          simp [newRow]
      · exact h.elim
    · exact h.elim
  · exact h.elim

theorem opMakeSlice_sound (hE : EOK P E) {t : TypeId} {len cap : SV} {p : Plan} {m : Mem} {κ : Kont α} (h : (opMakeSlice E t len cap p m κ).holds L) :
    ∃ v m', (κ v p m').holds L ∧ ∀ w0 R0 ρ w (lv cv : Value), MRel w0 R0 ρ w m → Rep (RO w0 R0 ρ w m) ρ m.next w len lv → Rep (RO w0 R0 ρ w m) ρ m.next w cap cv → Yields' P m v m' (Instr.makeSlice t lv cv) w0 R0 ρ w := by
  unfold opMakeSlice at h
  split at h
  · rename_i n c
    split at h
    · rename_i e sz by_ ze ty eg he hr
      have hu := (hE.row _ _ hr).und
      dsimp only at hu
      split at h
      · rename_i de size bytes ze' u eg' he' hre
        have hok := hE.row _ _ hre
        obtain ⟨z, hz1, hz2, hz3⟩ := run_zero' hok
        obtain ⟨i, hi, hib, his⟩ := run_typeInfo' hok
        split at h
        · rename_i hs
          have hs' : size = u.sz := by simpa using hs
          obtain ⟨hb, h⟩ := h
          simp only [Bool.and_eq_true, decide_eq_true_eq, beq_iff_eq] at hb
          obtain ⟨⟨⟨hb1, hb2⟩, hb3⟩, hb4⟩ := hb
          obtain ⟨m', h1, h2⟩ := Mem.push_holds h
          refine ⟨_, m', h2, fun w0 R0 ρ w lv cv hm hl hc => ?_⟩
          rw [show lv = _ from hl, show cv = _ from hc, ← hb2]
          have hw : IntKind.i64.wrap n = n := by
            unfold IntKind.wrap
            simp only [IntKind.signed, IntKind.bits]
            have : n % (2 ^ 64 : Int) = n := Int.emod_eq_of_lt hb1 (by omega)
            simp only [this]
            rw [if_neg (by simp; omega)]
          have hzl := (RepD.flat (ρ := ρ) (n := 0) u u.dflt _ (hz3 u rfl (fun _ => True) w)).1
          have hzs : z.cells.size = size := by rw [hs']; simpa using hzl
          have hdl : ∀ k, RepDL (RO w0 R0 ρ w m) w u (List.replicate k u.dflt) ((List.range (k * size)).map fun i => z.cells.toList.getD (i % size) default) := by
            intro k
            refine Elems.repDL (by simp [hs']) fun i hi' => ?_
            rw [List.length_replicate] at hi'
            refine ⟨z.cells.toList, hzl, fun j hj => ?_, by simpa using hz3 u rfl _ _⟩
            have hlt : i * u.sz + j < k * size := by
              have : (i + 1) * u.sz ≤ k * size := by rw [hs']; exact Nat.mul_le_mul_right _ hi'
              rw [Nat.succ_mul] at this; omega
            have hmod : (i * u.sz + j) % size = j := by
              rw [hs', Nat.mul_comm, Nat.mul_add_mod]; exact Nat.mod_eq_of_lt hj
            dsimp only
            rw [List.getElem?_map, List.getElem?_range hlt, Option.map_some, hmod]
            have hjl : j < z.cells.toList.length := by omega
            rw [List.getD_eq_getElem?_getD, List.getElem?_eq_getElem hjl]
            rfl
          have hzero : ∃ zs : Array Value, ((n.toNat * size = 0 ∧ zs = #[]) ∨ (¬ n.toNat * size = 0 ∧ zs = z.cells)) ∧ ((Array.range (n.toNat * size)).map (zs[· % zs.size]!)).toList = (List.range (n.toNat * size)).map fun i => z.cells.toList.getD (i % size) default := by
            by_cases h0 : n.toNat * size = 0
            · refine ⟨#[], .inl ⟨h0, rfl⟩, ?_⟩
              rw [h0]; simp
            · refine ⟨z.cells, .inr ⟨h0, rfl⟩, ?_⟩
              simp only [Array.toList_map, Array.toList_range]
              apply List.map_congr_left
              intro k _
              rw [hzs]
              have : size ≠ 0 := fun hc => h0 (by rw [hc]; simp)
              have hk : k % size < z.cells.size := by rw [hzs]; exact Nat.mod_lt _ (by omega)
              simp [List.getD, getElem!_pos, hk]
          obtain ⟨zs, q1, q2⟩ := hzero
          have hkey := push_rows (u := u) (l := List.replicate n.toNat u.dflt) (cap := n.toNat) (vs := (List.range (n.toNat * size)).map fun i => z.cells.toList.getD (i % size) default) (rest := [])
            (w1 := w.alloc (.cells ((Array.range (n.toNat * size)).map (zs[· % zs.size]!)) e)) hm h1 rfl rfl rfl (by simp) (fun k hk => Below.heap_alloc w _ k hk) (heap_alloc_new w _) (unfrozen_zero _) (by simp [hs']) (by simp) (by rw [q2]; simp) (hdl _)
          refine ⟨_, _, ?_, by simpa using hkey⟩
          have t1 : ¬ n < 0 := by omega
          have t2 : ¬ (281474976710656 < (i.bytes : Int) * n) := by
            have e1 : (i.bytes : Int) = (bytes : Int) := by rw [hib]
            rw [e1]; omega
          have hsr := run_sizeOf' hok
          dsimp only at hsr
          simp only [Instr.makeSlice, Sem.run_bind, run_underlying hu, Result.andThen_ok, asInt, asIntOf, Sem.run_pure, hi, hw]
          rw [if_neg (by simp; omega)]
          simp only [Sem.run_bind, run_askRoom, Result.andThen_ok, hsr, pure_bind]
          rcases q1 with ⟨h0, rfl⟩ | ⟨h0, rfl⟩
          · rw [if_pos h0]
            simp [newRow]
          · rw [if_neg h0]
            simp only [Sem.run_bind, hz1, Result.andThen_ok]
            simp [newRow]
        · exact h.elim
      · exact h.elim
    · exact h.elim
  · exact h.elim

/-! ### Ranges over strings -/

theorem opRange_sound {x : SV} {p : Plan} {m : Mem} {κ : Kont α} (h : (opRange x p m κ).holds L) :
    ∃ v m', (κ v p m').holds L ∧ ∀ t w0 R0 ρ w (xv : Value), P.underlying t = some .string → MRel w0 R0 ρ w m → Rep (RO w0 R0 ρ w m) ρ m.next w x xv → Yields' P m v m' (Instr.range t xv) w0 R0 ρ w := by
  unfold opRange at h
  split at h
  · rename_i s
    obtain ⟨m', h1, h2⟩ := Mem.push_holds h
    refine ⟨_, m', h2, fun t w0 R0 ρ w xv hu hm hx => ?_⟩
    rw [show xv = _ from hx]
    obtain ⟨g1, g2⟩ := hm.alloc (o := .stringIter ⟨⟨s⟩⟩ 0) h1 0 0 (fun R n' ρ' e' => heap_alloc_new w _)
    refine ⟨.pointer (some ⟨w.heap.size, 0, none⟩), _, ?_, _, g1, g2, by rw [h1.2]; omega, by rw [upd_same]⟩
    simp [Instr.range, run_underlying hu]
  · exact h.elim

theorem opNext_sound {x : SV} {p : Plan} {m : Mem} {κ : Kont α} (h : (opNext x p m κ).holds L) :
    ∃ v p' m', (κ v p' m').holds L ∧ ∀ t w0 R0 ρ w (xv : Value), MRel w0 R0 ρ w m → Rep (RO w0 R0 ρ w m) ρ m.next w x xv → Yields' P m v m' (Instr.next xv true t) w0 R0 ρ w := by
  unfold opNext at h
  split at h
  · rename_i id
    split at h
    · rename_i s pos hg
      obtain ⟨p', h⟩ := dec_holds h
      have hb : ∀ w0 R0 ρ w, MRel w0 R0 ρ w m → w.heap[(ρ id).1]? = some (.stringIter ⟨⟨s⟩⟩ pos) := fun w0 R0 ρ w hm => hm.box id _ hg
      by_cases hlt : pos < s.length
      · rw [decide_eq_true hlt] at h
        dsimp only at h
        obtain ⟨m', h1, h2⟩ := Mem.set_holds h
        refine ⟨_, p', m', h2, fun t w0 R0 ρ w xv hm hx => ?_⟩
        obtain ⟨hid, rfl⟩ := hx
        have hh := hb w0 R0 ρ w hm
        have hsz : (ByteArray.mk ⟨s⟩).size = s.length := rfl
        have hlb : (ρ id).1 < w.heap.size := hm.hi id _ hg trivial
        refine ⟨.tuple #[.bool true, .int .i64 pos, .int .i32 (Utf8.decode ⟨⟨s⟩⟩ pos).1], { w with heap := w.heap.setIfInBounds (ρ id).1 (.stringIter ⟨⟨s⟩⟩ (pos + (Utf8.decode ⟨⟨s⟩⟩ pos).2)) }, ?_, ρ, ?_⟩
        · simp only [Instr.next, Sem.run_bind, getObj, Sem.run, hh, Result.andThen_ok, hsz, hlt, if_true, setObj, goInt]
          rfl
        · obtain ⟨g1, g2⟩ := hm.setBox (w' := { w with heap := w.heap.setIfInBounds (ρ id).1 (.stringIter ⟨⟨s⟩⟩ (pos + (Utf8.decode ⟨⟨s⟩⟩ pos).2)) }) hg trivial h1 rfl rfl rfl (by simp) (fun k hk => by simp [Array.getElem?_setIfInBounds, Ne.symm hk]) (fun R e' => by simp [BoxRel, Array.getElem?_setIfInBounds, hlb])
          exact ⟨g1, g2, _, rfl, _, _, rfl, rfl, _, _, rfl, rfl, _, _, rfl, rfl, rfl⟩
      · rw [decide_eq_false hlt] at h
        dsimp only at h
        refine ⟨_, p', m, h, fun t w0 R0 ρ w xv hm hx => ?_⟩
        obtain ⟨hid, rfl⟩ := hx
        have hh := hb w0 R0 ρ w hm
        have hsz : (ByteArray.mk ⟨s⟩).size = s.length := rfl
        refine Plainly.yields ⟨.tuple #[.bool false], ?_, _, rfl, _, _, rfl, rfl, rfl⟩ hm
        simp only [Instr.next, Sem.run_bind, getObj, Sem.run, hh, Result.andThen_ok, hsz, hlt, if_false]
        rfl
    · exact h.elim
  · exact h.elim
end
end Go.Sx
