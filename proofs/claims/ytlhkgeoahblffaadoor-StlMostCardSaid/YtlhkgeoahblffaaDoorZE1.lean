/-
  C3: Print and Pack of a mesh that lies in rows of the caller's, as facts.
  C5: the laws StlLimits and StlMost: what they compute.
  GC4: the segments of StlLimits and StlMost. Written by gen.py.
  C6: the laws StlLimits and StlMost: contracts.
-/
import Derived.Test.YtlhkgeoahblffaaDoorZD1
import Derived.Test.YtlhkgeoahblffaaDoorZA8
set_option linter.unusedSimpArgs false
set_option linter.unusedVariables false
set_option maxRecDepth 100000
namespace Go.Proofs.YtlhkgeoahblffaaDoor
open Go.Sx Go.RowKit

/-- A contract on data with a flat result, for rows of the caller's that say the same. -/
theorem wcall_data {P : Program} {f : FuncId} {args args' : List SV} {v : SV} {m : Mem} (h : SCall P f args' v) (hv : flatA v = true)
    (hconv : ∀ {w0 : World} {R0 : Nat → Prop} {ρ : Rho} {w : World} {vs : List Value}, MRel w0 R0 ρ w m → RepL (RO w0 R0 ρ w m) ρ m.next w args vs → RepL (RO w (fun b => b < w.heap.size) ρ w ⟨0, .e⟩) ρ 0 w args' vs) : WCall P f args m (v, m) := by
  intro w0 R0 ρ w vs hm hvs
  have o1 : MRel w (fun b => b < w.heap.size) ρ w ⟨0, .e⟩ := ⟨⟨Below.refl _ _, hm.gnd⟩, fun id B h => (by cases h), fun id B h => (by cases h), fun id B h => (by cases h), fun id id' B B' h => (by cases h), fun id B h => (by cases h)⟩
  refine OpPost.mono (fun u w' hu => ?_) (h ⟨0, .e⟩ w _ ρ w vs o1 (hconv hm hvs))
  obtain ⟨ρ', g1, g2, g3⟩ := hu
  have hc : MRel w (RO w0 R0 ρ w m) ρ' w' ⟨0, .e⟩ := ⟨g1.below, fun id B h => (by cases h), fun id B h => (by cases h), fun id B h => (by cases h), fun id id' B B' h => (by cases h), fun id B h => (by cases h)⟩
  have hst := Hand.start hm hc
  obtain ⟨k1, k2⟩ := hst.finish hm hc
  exact ⟨ρ, k1, k2, flatA_rep hv g3⟩

noncomputable def listOf (m : Mem) (v : SV) : Option (List T3) := match v with
  | .list (.pair (.int .i64) (.pair (.int .i64) (.int .i64))) l => some l
  | .nilS => some []
  | .row id => match m.get id with
    | some (.rows (.pair (.int .i64) (.pair (.int .i64) (.int .i64))) l) => some l
    | _ => none
  | .arr id off n => match m.get id with
    | some (.cells cs) => unflatN v3 n ((cs.drop off).take (n * 3))
    | _ => none
  | _ => none
theorem listOf_rep {w0 : World} {R0 : Nat → Prop} {ρ : Rho} {w : World} {m : Mem} (hm : MRel w0 R0 ρ w m) {v : SV} {l : List T3} (h : listOf m v = some l) {u : Value} (hr : Rep (RO w0 R0 ρ w m) ρ m.next w v u) : Rep (RO w (fun b => b < w.heap.size) ρ w ⟨0, .e⟩) ρ 0 w (.list v3 l) u := by
  have hlt : ∀ b, RO w0 R0 ρ w m b → RO w (fun b => b < w.heap.size) ρ w ⟨0, .e⟩ b := fun b hb => .inl ⟨hm.ro_lt hb, hm.ro_lt hb⟩
  unfold listOf at h
  split at h
  · injection h with h; subst h
    exact Rep.data hlt _ _ rfl hr
  · injection h with h; subst h
    exact ⟨none, 0, by rw [show u = _ from hr]; rfl, Nat.le_refl _, fun h => absurd h (Nat.lt_irrefl _)⟩
  · rename_i id
    split at h
    · rename_i l' hg
      injection h with h; subst h
      have e : argR m (.row id) = .list v3 l' := by simp only [argR, hg]
      have := argR_rep hm (R := RO w (fun b => b < w.heap.size) ρ w ⟨0, .e⟩) (fun b hb => .inl ⟨hb, hb⟩) (xs := [.row id]) (vs := [u]) ⟨u, [], rfl, hr, rfl⟩ (by rw [List.map_cons, e]; rfl)
      rw [List.map_cons, e] at this
      obtain ⟨u1, us, he, h1, _⟩ := this
      injection he with he _
      subst he
      exact h1
    · cases h
  · rename_i id off n
    generalize hg : m.get id = B at h
    cases B with
    | none => cases h
    | some B =>
      cases B with
      | cells cs => exact arr_repR hm hg (u := v3) (n := n) h hr.2 (.inl ⟨hm.hi id _ hg trivial, hm.hi id _ hg trivial⟩) hlt
      | rows _ _ => cases h
      | iter _ _ => cases h
      | obj _ _ => cases h
  · cases h
noncomputable def wMesh (f : FuncId) (h : List T3 → List T3 → SV) : WFact := ⟨f, fun args m => match args with
  | [.agg [x, y]] => match listOf m x with
    | some us => match listOf m y with
      | some ts => some (.leaf (h us ts, m))
      | none => none
    | none => none
  | _ => none⟩
theorem wMesh_ok {f : FuncId} {h : List T3 → List T3 → SV} (k : ∀ us ts, SCall Tryd.prog f [.agg [.list v3 us, .list v3 ts]] (h us ts)) (hf : ∀ us ts, flatA (h us ts) = true) : (wMesh f h).ok Tryd.prog := fun args m t ht => by
  simp only [wMesh] at ht
  split at ht
  · rename_i x y
    split at ht
    · rename_i us hx
      split at ht
      · rename_i ts hy
        injection ht with ht; subst ht
        refine wcall_data (k us ts) (hf us ts) fun hm hvs => ?_
        obtain ⟨u, us', rfl, ⟨vs, rfl, u1, us1, rfl, r1, u2, us2, rfl, r2, h3⟩, h4⟩ := hvs
        exact ⟨_, us', rfl, ⟨_, rfl, u1, _, rfl, listOf_rep hm hx r1, u2, us2, rfl, listOf_rep hm hy r2, h3⟩, h4⟩
      · cases ht
    · cases ht
  · cases ht
noncomputable def wPrintM : WFact := wMesh 15 printS
theorem wPrintM_ok : wPrintM.ok Tryd.prog := wMesh_ok s_print fun _ _ => rfl
noncomputable def wPackM : WFact := wMesh 24 packS
theorem wPackM_ok : wPackM.ok Tryd.prog := wMesh_ok s_pack fun _ _ => rfl
end Go.Proofs.YtlhkgeoahblffaaDoor
set_option linter.unusedSimpArgs false
set_option linter.unusedVariables false
set_option maxRecDepth 100000
namespace Go.Proofs.YtlhkgeoahblffaaDoor
open Go.Sx

abbrev Z1 : List T3 := [(0, 0, 0)]
def zs (k : Nat) : List T3 := List.replicate k (0, 0, 0)
theorem zs_len (k : Nat) : (zs k).length = k := List.length_replicate
theorem zs_chk {k : Nat} (h : k ≤ 4096) : chk Z1 (zs k) = 0 := by
  unfold chk
  rw [if_neg (by rw [zs_len]; simp; omega)]
  unfold eV
  rw [if_pos (by decide)]
  unfold eT
  rw [if_pos]
  rw [List.all_eq_true]
  intro t ht
  rw [(List.mem_replicate.1 ht).2]
  rfl
theorem zs_tri : (triText Z1 (0, 0, 0)).length = 70 := by kernel_rfl
theorem zs_body : ∀ k : Nat, (bodyText Z1 (zs k)).length = 70 * k
  | 0 => rfl
  | k + 1 => by
    have e : zs (k + 1) = (0, 0, 0) :: zs k := rfl
    rw [e, bodyText, List.length_append, zs_tri, zs_body k]; omega
theorem zs_print (k : Nat) : (printL Z1 (zs k)).length = 15 + 70 * k := by
  have := zs_body k
  simp only [printL, solidB, endsolidB, List.length_append, List.length_cons, List.length_nil]; omega
theorem zs_printT {k : Nat} (h : k ≤ 4096) : printT Z1 (zs k) = if k ≤ 936 then (printL Z1 (zs k), 0) else ([], 2) := by
  unfold printT
  rw [if_pos (zs_chk h), zs_print]
  split <;> split <;> first | rfl | omega

/-! ### Blanks alone -/

def sps (m : Nat) : List UInt8 := List.replicate m 32
theorem sps_mem {m : Nat} {x : UInt8} (h : x ∈ sps m) : x = 32 := (List.mem_replicate.1 h).2
theorem sps_res {m : Nat} (h : 0 < m) : mRes (sps m) = if 65536 < m then .err 0 2 else .err 1 6 := by
  have hl : (sps m).length = m := List.length_replicate
  unfold mRes
  rw [hl]
  by_cases h1 : 65536 < m
  · rw [if_pos (by omega), if_pos h1]
  · rw [if_neg (by omega), if_neg h1]
    have hne : sps m ≠ [] := fun e => by rw [e] at hl; simp at hl; omega
    have h10 : (10 : UInt8) ∉ sps m := fun hm => absurd (sps_mem hm) (by decide)
    obtain ⟨e1, e2⟩ := cut_miss h10
    rw [lns_cons hne, e1, e2, lns_nil, rL, if_pos (flds_nil.2 fun b hb => by rw [sps_mem hb]; rfl), rL]
    rfl
/-- The row, while it is filled. -/
def fill (m i : Nat) : List Int := List.replicate i 32 ++ List.replicate (m - i) 0
theorem fill_len {m i : Nat} (h : i ≤ m) : (fill m i).length = m := by simp [fill]; omega
theorem fill_set {m i : Nat} (h : i < m) : (fill m i).set i 32 = fill m (i + 1) := by
  unfold fill
  obtain ⟨d, hd⟩ : ∃ d, m - i = d + 1 := ⟨m - i - 1, by omega⟩
  rw [hd, List.set_append_right _ _ (by simp), List.length_replicate, Nat.sub_self, List.replicate_succ, List.set_cons_zero, show m - (i + 1) = d by omega]
  have : List.replicate (i + 1) (32 : Int) = List.replicate i 32 ++ [32] := by rw [List.replicate_succ']
  rw [this, List.append_assoc]; rfl
theorem fill_ofU (m : Nat) : ofU (fill m m) = sps m := by
  unfold fill ofU sps
  rw [Nat.sub_self]
  simp

/-! ### Zeros packed -/

theorem rep_add {α : Type} (a : α) (m n : Nat) : List.replicate (m + n) a = List.replicate m a ++ List.replicate n a := by rw [List.replicate_append_replicate]
theorem zs_36 : tri36 Z1 (0, 0, 0) = List.replicate 36 0 := by kernel_rfl
theorem zs_body36 : ∀ k : Nat, body36 Z1 (zs k) = List.replicate (36 * k) 0
  | 0 => rfl
  | k + 1 => by
    have e : zs (k + 1) = (0, 0, 0) :: zs k := rfl
    rw [e, body36, zs_36, zs_body36 k, show 36 * (k + 1) = 36 + 36 * k by omega, rep_add]
theorem zs_packT {k : Nat} (h : k ≤ 4096) : packT Z1 (zs k) = if k ≤ 1365 then (packL Z1 (zs k), 0) else ([], 2) := by
  unfold packT
  rw [if_pos (zs_chk h), zs_len]
  split <;> split <;> first | rfl | omega
theorem zs_packL (k : Nat) : packL Z1 (zs k) = be4 (k : Int) ++ List.replicate (36 * k) 0 := by
  rw [packL, zs_body36, zs_len]
/-- The bytes that the law lays itself. -/
def lay (k : Nat) : List Int := ((List.replicate (4 + 36 * k) (0 : Int)).set 2 ((k : Int) / 256 % 256)).set 3 ((k : Int) % 256)
theorem lay_ofU {k : Nat} (h : k < 65536) : ofU (lay k) = be4 (k : Int) ++ List.replicate (36 * k) 0 := by
  have e : List.replicate (4 + 36 * k) (0 : Int) = 0 :: 0 :: 0 :: 0 :: List.replicate (36 * k) 0 := by rw [rep_add]; rfl
  unfold lay ofU be4
  rw [e]
  have h3 : (k : Int) / 16777216 % 256 = 0 := by omega
  have h2 : (k : Int) / 65536 % 256 = 0 := by omega
  rw [h3, h2]
  simp
theorem lay_unp {k : Nat} (h : k ≤ 1371) : unp (ofU (lay k)) = if k ≤ 1365 then (vsOf Z1 (zs k), tsOf 0 k, 0) else ([], [], 2) := by
  rw [lay_ofU (by omega)]
  by_cases h1 : k ≤ 1365
  · rw [if_pos h1, ← zs_packL, unp_pack (zs_chk (by omega)) (by rw [zs_len]; exact h1), zs_len]
  · rw [if_neg h1]
    unfold unp
    have e0 : tk (be4 (k : Int) ++ List.replicate (36 * k) 0) 0 = (k : Int) := by
      rw [tk_left _ (by rw [be4_len]; omega), tk_be4]; omega
    rw [if_neg (by rw [List.length_append, be4_len]; omega), e0, if_pos (by omega)]
end Go.Proofs.YtlhkgeoahblffaaDoor
set_option linter.unusedSimpArgs false
set_option linter.unusedVariables false
set_option maxRecDepth 100000
namespace Go.Proofs.YtlhkgeoahblffaaDoor
open Go.Sx
def zI (k : Int) : List Int := List.replicate k.toNat 0
def layI (k : Int) : List Int := ((zI (IntKind.i64.wrap (4 + IntKind.i64.wrap (36 * k)))).set 2 (IntKind.u8.wrap (IntKind.i64.wrap (k.tdiv 256)))).set 3 (IntKind.u8.wrap (k.tmod 256))
noncomputable def itemsL2 : List Item := stopIt (segX (Env.ofB Tryd.prog (sumOf []) (wrOf []) (pnOf []) (bxOf []) (rdOf []) (rdOf []) (rdOf []) (rdOf [2])) 1000 (fnOf Tryd.prog 8) 0 (keepS 92 [0,3,6,7,8]) (codeS Tryd.prog 8) .all (startS Tryd.prog 8 [.int .u8 0]) [])
noncomputable def itemsM2 : List Item := stopIt (segX (Env.ofB Tryd.prog (sumOf []) (wrOf []) (pnOf []) (bxOf []) (rdOf []) (rdOf []) (rdOf []) (rdOf [2])) 1000 (fnOf Tryd.prog 12) 0 (keepS 85 [3]) (codeS Tryd.prog 12) .all (startS Tryd.prog 12 [.int .u8 0]) [])
def lm0_p : Plan := .all
noncomputable def lm0_t (n : Int) : Tree Stop :=
   .req (true) (.leaf (Stop.at itemsL2 92 (slotsS 92 [(0, SV.int IntKind.u8 n), (3, I64 (IntKind.i64.wrap (930 + IntKind.i64.wrap (n.tmod 14)))), (6, SV.undef), (7, SV.undef), (8, SV.undef)]) []))
theorem lm0 (n : Int) : segR (Env.ofB Tryd.prog (sumOf []) (wrOf []) (pnOf []) (bxOf []) (rdOf []) (rdOf []) (rdOf []) (rdOf [2])) 1000 (fnOf Tryd.prog 8) .unit (keepS 92 [0,3,6,7,8]) (codeS Tryd.prog 8) lm0_p (startS Tryd.prog 8 [.int .u8 n]) [] = lm0_t n := by kernel_rfl
def lm1_p : Plan := .fork (.lit (.lit (.fork (.lit (.lit (.lit (.lit (.lit (.lit (.lit (.lit (.lit (.lit (.all))))))))))) (.lit (.lit (.lit (.lit (.fork (.lit (.lit (.lit (.lit (.lit (.all)))))) (.lit (.lit (.fork (.lit (.lit (.fork (.lit (.lit (.lit (.lit (.lit (.lit (.lit (.lit (.lit (.lit (.lit (.all)))))))))))) (.lit (.lit (.lit (.lit (.lit (.lit (.lit (.lit (.lit (.lit (.fork (.all) (.all))))))))))))))) (.lit (.lit (.lit (.lit (.lit (.lit (.lit (.all))))))))))))))))))) (.lit (.lit (.lit (.lit (.lit (.lit (.lit (.fork (.lit (.lit (.fork (.lit (.lit (.lit (.lit (.lit (.lit (.lit (.lit (.lit (.lit (.lit (.all)))))))))))) (.lit (.lit (.lit (.lit (.lit (.lit (.lit (.lit (.lit (.lit (.fork (.all) (.all))))))))))))))) (.lit (.lit (.lit (.lit (.lit (.lit (.lit (.all))))))))))))))))
noncomputable def lm1_t (n k : Int) : Tree Stop :=
   .req (decide (0 ≤ k) && k == k && decide (24 * k ≤ 140737488355328) && decide (k ≤ (9223372036854775807 : Int))) (.node (decide (k > 936))
  (.node ((printT Z1 (zs k.toNat)).snd != 2)
   (.leaf (Stop.done (SV.bool false)))
   (.node (!(printT Z1 (zs k.toNat)).fst == [])
    (.leaf (Stop.done (SV.bool false)))
    (.node (decide (k ≤ 936))
     (.node ((printT Z1 (zs k.toNat)).snd != 0)
      (.leaf (Stop.done (SV.bool false)))
      (.node ((↑(printT Z1 (zs k.toNat)).fst.length : Int) != IntKind.i64.wrap (15 + IntKind.i64.wrap (70 * k)))
       (.leaf (Stop.done (SV.bool false)))
       (.req (true) (.req (decide (0 ≤ IntKind.i64.wrap (65531 + IntKind.i64.wrap (n.tmod 10))) && IntKind.i64.wrap (65531 + IntKind.i64.wrap (n.tmod 10)) == IntKind.i64.wrap (65531 + IntKind.i64.wrap (n.tmod 10)) && decide (1 * IntKind.i64.wrap (65531 + IntKind.i64.wrap (n.tmod 10)) ≤ 140737488355328) && decide (IntKind.i64.wrap (65531 + IntKind.i64.wrap (n.tmod 10)) ≤ (9223372036854775807 : Int))) (.leaf (Stop.at (loopOf Tryd.prog 8 0) 92 (slotsS 92 [(0, SV.int IntKind.u8 n), (3, I64 k), (6, I64 (IntKind.i64.wrap (65531 + IntKind.i64.wrap (n.tmod 10)))), (7, SV.row 0), (8, I64 0)]) [some (Box.rows (Ty.int IntKind.u8) (zI (IntKind.i64.wrap (65531 + IntKind.i64.wrap (n.tmod 10)))))]))))))
     (.req (true) (.req (decide (0 ≤ IntKind.i64.wrap (65531 + IntKind.i64.wrap (n.tmod 10))) && IntKind.i64.wrap (65531 + IntKind.i64.wrap (n.tmod 10)) == IntKind.i64.wrap (65531 + IntKind.i64.wrap (n.tmod 10)) && decide (1 * IntKind.i64.wrap (65531 + IntKind.i64.wrap (n.tmod 10)) ≤ 140737488355328) && decide (IntKind.i64.wrap (65531 + IntKind.i64.wrap (n.tmod 10)) ≤ (9223372036854775807 : Int))) (.leaf (Stop.at (loopOf Tryd.prog 8 0) 92 (slotsS 92 [(0, SV.int IntKind.u8 n), (3, I64 k), (6, I64 (IntKind.i64.wrap (65531 + IntKind.i64.wrap (n.tmod 10)))), (7, SV.row 0), (8, I64 0)]) [some (Box.rows (Ty.int IntKind.u8) (zI (IntKind.i64.wrap (65531 + IntKind.i64.wrap (n.tmod 10)))))])))))))
  (.node (decide (k ≤ 936))
   (.node ((printT Z1 (zs k.toNat)).snd != 0)
    (.leaf (Stop.done (SV.bool false)))
    (.node ((↑(printT Z1 (zs k.toNat)).fst.length : Int) != IntKind.i64.wrap (15 + IntKind.i64.wrap (70 * k)))
     (.leaf (Stop.done (SV.bool false)))
     (.req (true) (.req (decide (0 ≤ IntKind.i64.wrap (65531 + IntKind.i64.wrap (n.tmod 10))) && IntKind.i64.wrap (65531 + IntKind.i64.wrap (n.tmod 10)) == IntKind.i64.wrap (65531 + IntKind.i64.wrap (n.tmod 10)) && decide (1 * IntKind.i64.wrap (65531 + IntKind.i64.wrap (n.tmod 10)) ≤ 140737488355328) && decide (IntKind.i64.wrap (65531 + IntKind.i64.wrap (n.tmod 10)) ≤ (9223372036854775807 : Int))) (.leaf (Stop.at (loopOf Tryd.prog 8 0) 92 (slotsS 92 [(0, SV.int IntKind.u8 n), (3, I64 k), (6, I64 (IntKind.i64.wrap (65531 + IntKind.i64.wrap (n.tmod 10)))), (7, SV.row 0), (8, I64 0)]) [some (Box.rows (Ty.int IntKind.u8) (zI (IntKind.i64.wrap (65531 + IntKind.i64.wrap (n.tmod 10)))))]))))))
   (.req (true) (.req (decide (0 ≤ IntKind.i64.wrap (65531 + IntKind.i64.wrap (n.tmod 10))) && IntKind.i64.wrap (65531 + IntKind.i64.wrap (n.tmod 10)) == IntKind.i64.wrap (65531 + IntKind.i64.wrap (n.tmod 10)) && decide (1 * IntKind.i64.wrap (65531 + IntKind.i64.wrap (n.tmod 10)) ≤ 140737488355328) && decide (IntKind.i64.wrap (65531 + IntKind.i64.wrap (n.tmod 10)) ≤ (9223372036854775807 : Int))) (.leaf (Stop.at (loopOf Tryd.prog 8 0) 92 (slotsS 92 [(0, SV.int IntKind.u8 n), (3, I64 k), (6, I64 (IntKind.i64.wrap (65531 + IntKind.i64.wrap (n.tmod 10)))), (7, SV.row 0), (8, I64 0)]) [some (Box.rows (Ty.int IntKind.u8) (zI (IntKind.i64.wrap (65531 + IntKind.i64.wrap (n.tmod 10)))))]))))))
theorem lm1 (n k : Int) : segR (Env.ofW Tryd.prog (sumOf [fAwake, fParseQ]) (wrOf [wPrintM])) 1000 (fnOf Tryd.prog 8) .unit (keepS 92 [0,3,6,7,8]) itemsL2 lm1_p (slotsS 92 [(0, .int .u8 n), (3, I64 k), (6, .undef), (7, .undef), (8, .undef)]) [] = lm1_t n k := by kernel_rfl
def lm2_p : Plan := .fork (.all) (.fork (.fork (.lit (.lit (.fork (.lit (.all)) (.lit (.all))))) (.lit (.lit (.lit (.lit (.all)))))) (.fork (.lit (.lit (.fork (.lit (.all)) (.lit (.all))))) (.lit (.lit (.lit (.lit (.all)))))))
noncomputable def lm2_t (n j k : Int) (l : List Int) (i : Int) : Tree Stop :=
   .node (decide (i < k))
 (.req (decide (0 ≤ i) && decide (i < (↑l.length : Int))) (.req (decide (i.toNat < l.length)) (.leaf (Stop.at (loopOf Tryd.prog 8 0) 92 (slotsS 92 [(0, SV.int IntKind.u8 n), (3, I64 j), (6, I64 k), (7, SV.row 0), (8, I64 (IntKind.i64.wrap (i + 1)))]) [some (Box.rows (Ty.int IntKind.u8) (l.set i.toNat 32))]))))
 (.node (decide (k > 65536))
  (.node (mL (ofU l) == 0)
   (.node (mE (ofU l) == 2)
    (.leaf (Stop.done (SV.bool true)))
    (.leaf (Stop.done (SV.bool false))))
   (.leaf (Stop.done (SV.bool false))))
  (.node (mL (ofU l) == 1)
   (.node (mE (ofU l) == 6)
    (.leaf (Stop.done (SV.bool true)))
    (.leaf (Stop.done (SV.bool false))))
   (.leaf (Stop.done (SV.bool false)))))
theorem lm2 (n j k : Int) (l : List Int) (i : Int) : segR (Env.ofW Tryd.prog (sumOf [fAwake, fParseQ]) (wrOf [wPrintM])) 1000 (fnOf Tryd.prog 8) .unit (keepS 92 [0,3,6,7,8]) (loopOf Tryd.prog 8 0) lm2_p (slotsS 92 [(0, .int .u8 n), (3, I64 j), (6, I64 k), (7, .row 0), (8, I64 i)]) [some (.rows (.int .u8) l)] = lm2_t n j k l i := by kernel_rfl
def mm0_p : Plan := .all
noncomputable def mm0_t (n : Int) : Tree Stop :=
   .req (true) (.leaf (Stop.at itemsM2 85 (slotsS 85 [(3, I64 (IntKind.i64.wrap (1360 + IntKind.i64.wrap (n.tmod 12))))]) []))
theorem mm0 (n : Int) : segR (Env.ofB Tryd.prog (sumOf []) (wrOf []) (pnOf []) (bxOf []) (rdOf []) (rdOf []) (rdOf []) (rdOf [2])) 1000 (fnOf Tryd.prog 12) .unit (keepS 85 [3]) (codeS Tryd.prog 12) mm0_p (startS Tryd.prog 12 [.int .u8 n]) [] = mm0_t n := by kernel_rfl
def mm1_p : Plan := .fork (.fork (.lit (.lit (.fork (.lit (.lit (.lit (.lit (.fork (.lit (.lit (.fork (.lit (.all)) (.lit (.all))))) (.lit (.lit (.lit (.lit (.all)))))))))) (.lit (.lit (.lit (.lit (.lit (.lit (.lit (.lit (.lit (.all))))))))))))) (.lit (.lit (.lit (.lit (.lit (.lit (.lit (.lit (.lit (.lit (.lit (.lit (.all)))))))))))))) (.fork (.lit (.lit (.lit (.lit (.fork (.lit (.lit (.fork (.lit (.lit (.lit (.lit (.lit (.fork (.lit (.all)) (.lit (.all)))))))) (.lit (.lit (.lit (.lit (.lit (.lit (.lit (.all))))))))))) (.lit (.lit (.lit (.lit (.lit (.lit (.lit (.lit (.lit (.lit (.all)))))))))))))))) (.lit (.lit (.lit (.lit (.lit (.lit (.lit (.lit (.lit (.lit (.lit (.lit (.lit (.lit (.lit (.all)))))))))))))))))
noncomputable def mm1_t (k : Int) : Tree Stop :=
   .req (decide (0 ≤ k) && k == k && decide (24 * k ≤ 140737488355328) && decide (k ≤ (9223372036854775807 : Int))) (.req (decide (0 ≤ IntKind.i64.wrap (4 + IntKind.i64.wrap (36 * k))) && IntKind.i64.wrap (4 + IntKind.i64.wrap (36 * k)) == IntKind.i64.wrap (4 + IntKind.i64.wrap (36 * k)) && decide (1 * IntKind.i64.wrap (4 + IntKind.i64.wrap (36 * k)) ≤ 140737488355328) && decide (IntKind.i64.wrap (4 + IntKind.i64.wrap (36 * k)) ≤ (9223372036854775807 : Int))) (.req (true) (.req (decide (2 < (↑(zI (IntKind.i64.wrap (4 + IntKind.i64.wrap (36 * k)))).length : Int))) (.req (decide (2 < (zI (IntKind.i64.wrap (4 + IntKind.i64.wrap (36 * k)))).length)) (.req (true) (.req (decide (3 < (↑((zI (IntKind.i64.wrap (4 + IntKind.i64.wrap (36 * k)))).set 2 (IntKind.u8.wrap (IntKind.i64.wrap (k.tdiv 256)))).length : Int))) (.req (decide (3 < ((zI (IntKind.i64.wrap (4 + IntKind.i64.wrap (36 * k)))).set 2 (IntKind.u8.wrap (IntKind.i64.wrap (k.tdiv 256)))).length)) (.req (decide ((↑(ofU (layI k)).length : Int) ≤ 100000)) (.node (decide (k > 1365))
          (.node ((packT Z1 (zs k.toNat)).fst == [])
           (.node ((packT Z1 (zs k.toNat)).snd == 2)
            (.node ((↑(unp (ofU (layI k))).snd.fst.length : Int) == 0)
             (.node ((unp (ofU (layI k))).snd.snd == 2)
              (.leaf (Stop.done (SV.bool true)))
              (.leaf (Stop.done (SV.bool false))))
             (.leaf (Stop.done (SV.bool false))))
            (.leaf (Stop.done (SV.bool false))))
           (.leaf (Stop.done (SV.bool false))))
          (.node ((packT Z1 (zs k.toNat)).snd == 0)
           (.node ((packT Z1 (zs k.toNat)).fst == ofU (layI k))
            (.node ((unp (ofU (layI k))).snd.snd == 0)
             (.node ((↑(unp (ofU (layI k))).snd.fst.length : Int) == k)
              (.leaf (Stop.done (SV.bool true)))
              (.leaf (Stop.done (SV.bool false))))
             (.leaf (Stop.done (SV.bool false))))
            (.leaf (Stop.done (SV.bool false))))
           (.leaf (Stop.done (SV.bool false)))))))))))))
theorem mm1 (k : Int) : segR (Env.ofW Tryd.prog (sumOf [fPacked, fUnpack 26]) (wrOf [wPackM])) 1000 (fnOf Tryd.prog 12) .unit (keepS 85 [3]) itemsM2 mm1_p (slotsS 85 [(3, I64 k)]) [] = mm1_t k := by kernel_rfl
end Go.Proofs.YtlhkgeoahblffaaDoor
set_option linter.unusedSimpArgs false
set_option linter.unusedVariables false
set_option maxRecDepth 100000
namespace Go.Proofs.YtlhkgeoahblffaaDoor
open Go.Sx

theorem kLi : Known Tryd.prog (Env.ofW Tryd.prog (sumOf [fAwake, fParseQ]) (wrOf [wPrintM])) := known_ofW mix (l := [fAwake, fParseQ]) (k := [wPrintM]) (allOk.all (l := [fAwake, fParseQ]) ⟨o_awake, o_parseQ, trivial⟩) (fun x hx => by
    rcases List.mem_cons.1 hx with rfl | hx
    · exact wPrintM_ok
    · cases hx)
theorem kMo : Known Tryd.prog (Env.ofW Tryd.prog (sumOf [fPacked, fUnpack 26]) (wrOf [wPackM])) := known_ofW mix (l := [fPacked, fUnpack 26]) (k := [wPackM]) (allOk.all (l := [fPacked, fUnpack 26]) ⟨o_packed, o_unpack, trivial⟩) (fun x hx => by
    rcases List.mem_cons.1 hx with rfl | hx
    · exact wPackM_ok
    · cases hx)
theorem kCut : Known Tryd.prog (Env.ofB Tryd.prog (sumOf []) (wrOf []) (pnOf []) (bxOf []) (rdOf []) (rdOf []) (rdOf []) (rdOf [2])) := hB (l := []) [] [] [] [2] trivial noneOk noneOk noneOk

theorem u8_mod {n m : Int} (h0 : 0 ≤ n) (hm : 0 < m) (hm2 : m ≤ 100) : IntKind.i64.wrap (n.tmod m) = n % m ∧ 0 ≤ n % m ∧ n % m < m := by
  rw [Int.tmod_eq_emod_of_nonneg h0]
  have a := Int.emod_nonneg n (show m ≠ 0 by omega)
  have b := Int.emod_lt_of_pos n hm
  exact ⟨i64s (by omega) (by omega), a, b⟩

theorem wf8 {n : Int} (h : (Lit.int .u8 n).wf = true) : 0 ≤ n := by
  have h2 : (decide (IntKind.u8.min ≤ n) && decide (n ≤ IntKind.u8.max)) = true := h
  rw [Bool.and_eq_true, decide_eq_true_eq] at h2
  exact h2.1

/-! ### StlLimits -/

theorem lm_loop (n j : Int) (m : Nat) (h0 : 0 < m) (hm : m ≤ 70000) : ∀ (d i : Nat), i + d = m → RunsR Tryd.prog (fnOf Tryd.prog 8) (.bool true) (loopOf Tryd.prog 8 0) (slotsS 92 [(0, .int .u8 n), (3, I64 j), (6, I64 (m : Int)), (7, .row 0), (8, I64 (i : Int))]) [some (.rows (.int .u8) (fill m i))]
  | d, i, hi => by
    refine runsR_seg kLi (n := 1000) (hint := .unit) (keep := keepS 92 [0,3,6,7,8]) (p := lm2_p) rfl ?_
    erw [lm2 n j (m : Int) (fill m i) (i : Int)]
    unfold lm2_t
    match d, hi with
    | 0, hi =>
      have hi : i = m := hi
      subst hi
      rw [fill_ofU]
      have hr := sps_res h0
      refine ⟨fun h => absurd (of_decide_eq_true h) (by omega), fun _ => ⟨fun h => ?_, fun h => ?_⟩⟩
      · have h := of_decide_eq_true h
        rw [if_pos (by omega)] at hr
        have e1 : mL (sps i) = 0 := by unfold mL; rw [hr]; rfl
        have e2 : mE (sps i) = 2 := by unfold mE; rw [hr]; rfl
        rw [e1, e2]
        exact ⟨fun _ => ⟨fun _ => rfl, fun h => absurd h (by decide)⟩, fun h => absurd h (by decide)⟩
      · have h := of_decide_eq_false h
        rw [if_neg (by omega)] at hr
        have e1 : mL (sps i) = 1 := by unfold mL; rw [hr]; rfl
        have e2 : mE (sps i) = 6 := by unfold mE; rw [hr]; rfl
        rw [e1, e2]
        exact ⟨fun _ => ⟨fun _ => rfl, fun h => absurd h (by decide)⟩, fun h => absurd h (by decide)⟩
    | d + 1, hi =>
      have hl : i < m := by omega
      have hf := fill_len (m := m) (i := i) (by omega)
      have IH := lm_loop n j m h0 hm d (i + 1) (by omega)
      rw [← fill_set hl] at IH
      refine ⟨fun _ => ⟨by rw [hf]; simp; omega, decide_eq_true (by rw [hf]; omega), slotsS_len _ _, ?_⟩, fun h => absurd (of_decide_eq_false h) (by omega)⟩
      rw [wr1 (by omega), show ((i : Int)).toNat = i by omega]
      exact IH
theorem lm_tail (n : Int) (k : Int) (hn : 0 ≤ n) : (Tree.req (true) (.req (decide (0 ≤ IntKind.i64.wrap (65531 + IntKind.i64.wrap (n.tmod 10))) && IntKind.i64.wrap (65531 + IntKind.i64.wrap (n.tmod 10)) == IntKind.i64.wrap (65531 + IntKind.i64.wrap (n.tmod 10)) && decide (1 * IntKind.i64.wrap (65531 + IntKind.i64.wrap (n.tmod 10)) ≤ 140737488355328) && decide (IntKind.i64.wrap (65531 + IntKind.i64.wrap (n.tmod 10)) ≤ (9223372036854775807 : Int))) (.leaf (Stop.at (loopOf Tryd.prog 8 0) 92 (slotsS 92 [(0, SV.int IntKind.u8 n), (3, I64 k), (6, I64 (IntKind.i64.wrap (65531 + IntKind.i64.wrap (n.tmod 10)))), (7, SV.row 0), (8, I64 0)]) [some (Box.rows (Ty.int IntKind.u8) (zI (IntKind.i64.wrap (65531 + IntKind.i64.wrap (n.tmod 10)))))])))).holds fun o => match o with
      | .done v' => v' = .bool true
      | .at items' size slots' boxes' => slots'.length = size ∧ RunsR Tryd.prog (fnOf Tryd.prog 8) (.bool true) items' slots' boxes' := by
  obtain ⟨e1, e2, e3⟩ := u8_mod (m := 10) hn (by omega) (by omega)
  rw [e1, i64s (x := 65531 + n % 10) (by omega) (by omega)]
  obtain ⟨m, hm⟩ : ∃ m : Nat, 65531 + n % 10 = (m : Int) := ⟨(65531 + n % 10).toNat, by omega⟩
  rw [hm]
  refine ⟨rfl, by simp; omega, slotsS_len _ _, ?_⟩
  have := lm_loop n k m (by omega) (by omega) m 0 (by omega)
  have e : fill m 0 = zI (m : Int) := by unfold fill zI; simp
  rw [e] at this
  exact this
theorem s_lawLimits (n : Int) (h0 : 0 ≤ n) : SCall Tryd.prog 8 [.int .u8 n] (.bool true) := by
  refine scallR_loops rfl rfl (by kernel_rfl) (runsR_seg kCut (n := 1000) (hint := .unit) (keep := keepS 92 [0,3,6,7,8]) (p := lm0_p) (boxes := []) rfl ?_)
  have e := lm0 n
  unfold startS codeS at e
  erw [e]
  unfold lm0_t
  refine ⟨rfl, slotsS_len _ _, ?_⟩
  obtain ⟨e1, e2, e3⟩ := u8_mod (m := 14) h0 (by omega) (by omega)
  rw [e1, i64s (x := 930 + n % 14) (by omega) (by omega)]
  obtain ⟨k, hk⟩ : ∃ k : Nat, 930 + n % 14 = (k : Int) := ⟨(930 + n % 14).toNat, by omega⟩
  rw [hk]
  refine runsR_seg kLi (n := 1000) (hint := .unit) (keep := keepS 92 [0,3,6,7,8]) (p := lm1_p) rfl ?_
  erw [lm1 n (k : Int)]
  unfold lm1_t
  have hp := zs_printT (k := k) (by omega)
  have hl := zs_print k
  have tail := lm_tail n (k : Int) h0
  have w : IntKind.i64.wrap (15 + IntKind.i64.wrap (70 * (k : Int))) = 15 + 70 * (k : Int) := by rw [i64s (x := 70 * (k : Int)) (by omega) (by omega), i64s (by omega) (by omega)]
  rw [show ((k : Int)).toNat = k by omega, w, hp]
  refine ⟨by simp; omega, fun h => ?_, fun h => ?_⟩
  · have h := of_decide_eq_true h
    rw [if_neg (by omega)]
    exact ⟨fun h => absurd h (by decide), fun _ => ⟨fun h => absurd h (by decide), fun _ => ⟨fun h => absurd (of_decide_eq_true h) (by omega), fun _ => tail⟩⟩⟩
  · have h := of_decide_eq_false h
    rw [if_pos (by omega)]
    refine ⟨fun _ => ⟨fun h => absurd h (by simp), fun _ => ⟨fun h => ?_, fun _ => tail⟩⟩, fun h => absurd (of_decide_eq_false h) (by omega)⟩
    dsimp only at h
    rw [hl] at h
    simp at h

/-! ### StlMost -/

theorem layI_eq {k : Nat} (h : k ≤ 1371) : layI (k : Int) = lay k := by
  unfold layI lay zI
  rw [i64s (x := 36 * (k : Int)) (by omega) (by omega), i64s (x := 4 + 36 * (k : Int)) (by omega) (by omega), Int.tdiv_eq_ediv_of_nonneg (by omega), Int.tmod_eq_emod_of_nonneg (by omega), i64s (x := (k : Int) / 256) (by omega) (by omega), u8_def, u8_def, show (4 + 36 * (k : Int)).toNat = 4 + 36 * k by omega, show (k : Int) % 256 % 256 = (k : Int) % 256 by omega]
theorem lay_len (k : Nat) : (lay k).length = 4 + 36 * k := by simp [lay]
theorem s_lawMost (n : Int) (h0 : 0 ≤ n) : SCall Tryd.prog 12 [.int .u8 n] (.bool true) := by
  refine scallR_loops rfl rfl (by kernel_rfl) (runsR_seg kCut (n := 1000) (hint := .unit) (keep := keepS 85 [3]) (p := mm0_p) (boxes := []) rfl ?_)
  have e := mm0 n
  unfold startS codeS at e
  erw [e]
  unfold mm0_t
  refine ⟨rfl, slotsS_len _ _, ?_⟩
  obtain ⟨e1, e2, e3⟩ := u8_mod (m := 12) h0 (by omega) (by omega)
  rw [e1, i64s (x := 1360 + n % 12) (by omega) (by omega)]
  obtain ⟨k, hk⟩ : ∃ k : Nat, 1360 + n % 12 = (k : Int) := ⟨(1360 + n % 12).toNat, by omega⟩
  rw [hk]
  refine runsR_seg kMo (n := 1000) (hint := .unit) (keep := keepS 85 [3]) (p := mm1_p) rfl ?_
  erw [mm1 (k : Int)]
  unfold mm1_t
  have hk2 : k ≤ 1371 := by omega
  have hp := zs_packT (k := k) (by omega)
  have hu := lay_unp hk2
  have hlo : (ofU (lay k)).length = 4 + 36 * k := by rw [ofU_length, lay_len]
  have hz : zI (IntKind.i64.wrap (4 + IntKind.i64.wrap (36 * (k : Int)))) = List.replicate (4 + 36 * k) 0 := by
    unfold zI
    rw [i64s (x := 36 * (k : Int)) (by omega) (by omega), i64s (x := 4 + 36 * (k : Int)) (by omega) (by omega), show (4 + 36 * (k : Int)).toNat = 4 + 36 * k by omega]
  have w : IntKind.i64.wrap (4 + IntKind.i64.wrap (36 * (k : Int))) = 4 + 36 * (k : Int) := by rw [i64s (x := 36 * (k : Int)) (by omega) (by omega), i64s (by omega) (by omega)]
  rw [layI_eq hk2, hz, w, show ((k : Int)).toNat = k by omega, hp, hu, hlo]
  refine ⟨by simp; omega, by simp; omega, rfl, decide_eq_true (by simp; omega), decide_eq_true (by simp; omega), rfl, decide_eq_true (by simp; omega), decide_eq_true (by simp; omega), decide_eq_true (by omega), fun h => ?_, fun h => ?_⟩
  · have h := of_decide_eq_true h
    rw [if_neg (by omega), if_neg (by omega)]
    exact ⟨fun _ => ⟨fun _ => ⟨fun _ => ⟨fun _ => rfl, fun h => absurd h (by decide)⟩, fun h => absurd h (by decide)⟩, fun h => absurd h (by decide)⟩, fun h => absurd h (by decide)⟩
  · have h := of_decide_eq_false h
    rw [if_pos (by omega), if_pos (by omega)]
    have ez : packL Z1 (zs k) = ofU (lay k) := by rw [lay_ofU (by omega), zs_packL]
    rw [ez]
    dsimp only
    rw [tsOf_len]
    exact ⟨fun _ => ⟨fun _ => ⟨fun _ => ⟨fun _ => rfl, fun h => absurd h (by simp)⟩, fun h => absurd h (by decide)⟩, fun h => absurd h (by simp)⟩, fun h => absurd h (by decide)⟩
end Go.Proofs.YtlhkgeoahblffaaDoor
