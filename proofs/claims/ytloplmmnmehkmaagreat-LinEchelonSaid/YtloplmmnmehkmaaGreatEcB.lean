/- Reference 02: Solved: plain law. Reference 02: Solved: memory. Reference 02: Solved. Valid forms. Reference 02: Bare, Rank. -/
import Derived.Test.YtloplmmnmehkmaaGreatEcA
import Derived.Maps.AppendAt
import Derived.Laws.OwnMore
set_option linter.unusedVariables false
set_option linter.unusedSimpArgs false
namespace Go.Proofs.YtloplmmnmehkmaaGreat
open Go.RowKit

theorem pz_sz {K : Nat} {g z : Int} (h : Sz K z) : Sz K (pz g z) := by
  unfold pz
  by_cases hg : g = 0
  · rw [if_pos hg]; exact h
  · rw [if_neg hg]; exact h.le (tdiv_abs z g)
theorem rowF_len (r : Fm) : (rowF r).1.length = r.1.length := by simp [rowF]
theorem rowF_at (r : Fm) (k : Nat) (h : k < r.1.length) : rv (rowF r) k = ((r.1.getD k 0 : Int) : Rat) := by
  rw [rv_lt _ _ (by rw [rowF_len]; exact h)]
  exact getD_map (fun x : Int => (x : Rat)) r.1 k 0 0 h
theorem rowF_tm (r : Fm) (k : Int) : rowF (tmZ r k) = tms (rowF r) (k : Rat) := by
  refine Prod.ext ?_ ?_
  · show (r.1.map (· * k)).map (fun x : Int => (x : Rat)) = (r.1.map fun x : Int => (x : Rat)).map (· * (k : Rat))
    rw [List.map_map, List.map_map]
    exact List.map_congr_left fun x _ => Rat.intCast_mul x k
  · exact Rat.intCast_mul r.2 k
theorem rowF_pl {n : Nat} {a b : Fm} (ha : a.1.length = n) (hb : b.1.length = n) : rowF (plF n a b) = pls (rowF a) (rowF b) := by
  refine Prod.ext ?_ ?_
  · show (plZ n a.1 b.1).map (fun x : Int => (x : Rat)) = List.zipWith (· + ·) (a.1.map fun x : Int => (x : Rat)) (b.1.map fun x : Int => (x : Rat))
    refine List.ext_getElem (by simp [plZ, ha, hb]) fun i h1 h2 => ?_
    simp only [plZ, List.getElem_map, List.getElem_range, List.getElem_zipWith]
    have ea : a.1.getD i 0 = a.1[i]'(by simp [plZ] at h1; omega) := by rw [List.getD_eq_getElem?_getD, List.getElem?_eq_getElem]; rfl
    have eb : b.1.getD i 0 = b.1[i]'(by simp [plZ] at h1; omega) := by rw [List.getD_eq_getElem?_getD, List.getElem?_eq_getElem]; rfl
    rw [ea, eb, Rat.intCast_add]
  · exact Rat.intCast_add a.2 b.2
/-- Minus. -/
def niZ (r : Fm) : Fm := (r.1.map fun x => -x, -r.2)
theorem rowF_ni (r : Fm) : rowF (niZ r) = tms (rowF r) (-1) := by
  have : niZ r = tmZ r (-1) := by
    refine Prod.ext ?_ ?_
    · show r.1.map (fun x => -x) = r.1.map (· * (-1))
      exact List.map_congr_left fun x _ => by omega
    · show -r.2 = r.2 * (-1); omega
  rw [this, rowF_tm]; rfl
theorem pmZ_len {n : Nat} (r : Fm) : (pmZ n r).1.length = r.1.length := by simp [pmZ]
theorem plF_len {n : Nat} (a b : Fm) : (plF n a b).1.length = n := by simp [plF, plZ]
theorem clZ_len {n v : Nat} {q r : Fm} (hr : r.1.length = n) : (clZ n v q r).1.length = n := by
  unfold clZ
  split
  · exact hr
  · rw [pmZ_len, plF_len]
/-- What Clear does to a row. -/
theorem cl_spec {n v : Nat} {q r : Fm} (hq : q.1.length = n) (hr : r.1.length = n) (hv : v < n) (h0 : 0 < q.1.getD v 0) :
    ∃ a b : Rat, 0 < a ∧ (∀ k, rv (rowF (clZ n v q r)) k = a * rv (rowF r) k + b * rv (rowF q) k) ∧ rv (rowF (clZ n v q r)) v = 0 ∧ (Pm (rv (rowF r)) → (∃ k, rv (rowF (clZ n v q r)) k ≠ 0) → Pm (rv (rowF (clZ n v q r)))) := by
  have er := rowF_at r v (by omega)
  have eq := rowF_at q v (by omega)
  unfold clZ
  by_cases hz : r.1.getD v 0 = 0
  · rw [if_pos hz]
    refine ⟨1, 0, by decide, fun k => by grind, ?_, fun h _ => h⟩
    rw [er, hz]; rfl
  · rw [if_neg hz]
    have e : rowF (pmZ n (plF n (tmZ r (q.1.getD v 0)) (tmZ q (-r.1.getD v 0)))) = prm (pls (tms (rowF r) ((q.1.getD v 0 : Int) : Rat)) (tms (rowF q) ((-r.1.getD v 0 : Int) : Rat))) := by
      rw [← rowF_tm, ← rowF_tm, ← rowF_pl (n := n) (by simp [tmZ, hr]) (by simp [tmZ, hq]), prm_form, plF_len]
    rw [e]
    obtain ⟨c, hc, h1, h2⟩ := prm_spec (pls (tms (rowF r) ((q.1.getD v 0 : Int) : Rat)) (tms (rowF q) ((-r.1.getD v 0 : Int) : Rat)))
    have h3 : ∀ k, rv (pls (tms (rowF r) ((q.1.getD v 0 : Int) : Rat)) (tms (rowF q) ((-r.1.getD v 0 : Int) : Rat))) k = rv (rowF r) k * ((q.1.getD v 0 : Int) : Rat) + rv (rowF q) k * ((-r.1.getD v 0 : Int) : Rat) := by
      intro k
      rw [rv_pls _ _ (by rw [tms_len, tms_len, rowF_len, rowF_len]; omega), rv_tms, rv_tms]
    have hp : (0 : Rat) < ((q.1.getD v 0 : Int) : Rat) := Rat.intCast_pos.2 h0
    refine ⟨c * ((q.1.getD v 0 : Int) : Rat), c * ((-r.1.getD v 0 : Int) : Rat), Rat.mul_pos hc hp, fun k => ?_, ?_, fun _ hk => ?_⟩
    · rw [h1, h3]; grind
    · rw [h1, h3, er, eq, Rat.intCast_neg]; grind
    · refine h2 ?_
      obtain ⟨k, hk⟩ := hk
      refine ⟨k, fun h => hk ?_⟩
      rw [h1, h]; grind
/-- The new row. -/
def piZ (n v : Nat) (r : Fm) : Fm := if (pmZ n r).1.getD v 0 < 0 then niZ (pmZ n r) else pmZ n r
theorem pi_new {n v : Nat} {r : Fm} (hr : r.1.length = n) (hv : v < n) (hz : ∀ j, j < v → r.1.getD j 0 = 0) (h1 : r.1.getD v 0 ≠ 0) : ldF (rowF r).1 = v ∧ newF n (rowF r) = rowF (piZ n v r) := by
  have hl : Ld (rv (rowF r)) v := by
    refine ⟨?_, fun k hk => ?_⟩
    · rw [rowF_at r v (by omega)]; exact fun h => h1 (Rat.intCast_eq_zero_iff.1 h)
    · rw [rowF_at r k (by omega), hz k hk]; rfl
  have e := ldF_eq (rowF r) v hl (by rw [rowF_len]; omega)
  refine ⟨e, ?_⟩
  have e2 : prm (rowF r) = rowF (pmZ n r) := by rw [prm_form, hr]
  have e3 : (rowF (pmZ n r)).1.getD v 0 = (((pmZ n r).1.getD v 0 : Int) : Rat) := getD_map (fun x : Int => (x : Rat)) _ v 0 0 (by rw [pmZ_len]; omega)
  unfold newF piZ
  rw [e, e2, e3]
  by_cases hn : (pmZ n r).1.getD v 0 < 0
  · rw [if_pos hn, if_pos (Rat.intCast_neg_iff.2 hn), rowF_ni]
  · rw [if_neg hn, if_neg (fun h => hn (Rat.intCast_neg_iff.1 h))]
/-- The facts of the new row. -/
theorem pi_spec {n v : Nat} {r : Fm} (hr : r.1.length = n) (hv : v < n) (hz : ∀ j, j < v → r.1.getD j 0 = 0) (h1 : r.1.getD v 0 ≠ 0) :
    (piZ n v r).1.length = n ∧ (∀ j, j < v → (piZ n v r).1.getD j 0 = 0) ∧ 0 < (piZ n v r).1.getD v 0 ∧ Pm (rv (rowF (piZ n v r))) ∧ ∃ c : Rat, c ≠ 0 ∧ ∀ k, rv (rowF (piZ n v r)) k = c * rv (rowF r) k := by
  obtain ⟨e, e2⟩ := pi_new hr hv hz h1
  obtain ⟨c, hc, h2, h3, h4, h5⟩ := newF_spec (n := n) (r := rowF r) (by rw [rowF_len]; exact hr) (by omega)
  rw [e2] at h2 h3 h4 h5
  rw [e] at h4
  rw [rowF_len] at h5
  refine ⟨h5, fun j hj => ?_, ?_, h3, c, hc, h2⟩
  · have := h2 j
    rw [rowF_at _ j (by omega), rowF_at r j (by omega), hz j hj] at this
    refine Rat.intCast_eq_zero_iff.1 (this.trans ?_)
    show c * 0 = 0
    grind
  · rw [rowF_at _ v (by omega)] at h4
    exact Rat.intCast_pos.1 h4
/-- A round of Solved. -/
def stZ (n v i : Nat) (s : List Fm × List Fm) : List Fm × List Fm :=
  ((s.1.take i ++ s.1.drop (i + 1)).map (clZ n v (piZ n v (s.1.getD i ([], 0)))), s.2.map (clZ n v (piZ n v (s.1.getD i ([], 0)))) ++ [piZ n v (s.1.getD i ([], 0))])
def stepZ (n v : Nat) (s : List Fm × List Fm) : List Fm × List Fm :=
  match s.1.findIdx? (fun r => decide (r.1.getD v 0 ≠ 0)) with
  | none => s
  | some i => stZ n v i s
def ruZ (n : Nat) (l : List Fm) : Nat → List Fm × List Fm
  | 0 => (l, [])
  | v + 1 => stepZ n v (ruZ n l v)
/-- What Solved computes. -/
def soZ (n : Nat) (l : List Fm) : Option (List Fm) := if ∀ r ∈ (ruZ n l n).1, r.2 = 0 then some (ruZ n l n).2 else none
theorem fm_getD {l : List Fm} {i : Nat} (h : i < l.length) : l.getD i ([], 0) = l[i] := by
  rw [List.getD_eq_getElem?_getD, List.getElem?_eq_getElem h]; rfl
theorem step_hit {n v i : Nat} {s : List Fm × List Fm} (hi : i < s.1.length) (h0 : ∀ j, j < i → (s.1.getD j ([], 0)).1.getD v 0 = 0) (h1 : (s.1.getD i ([], 0)).1.getD v 0 ≠ 0) : stepZ n v s = stZ n v i s := by
  have e : s.1.findIdx? (fun r => decide (r.1.getD v 0 ≠ 0)) = some i := by
    rw [List.findIdx?_eq_some_iff_getElem]
    refine ⟨hi, ?_, fun j hj => ?_⟩
    · rw [← fm_getD hi]; simpa using h1
    · rw [← fm_getD (by omega)]; simpa using h0 j hj
  unfold stepZ
  rw [e]
theorem step_none {n v : Nat} {s : List Fm × List Fm} (h0 : ∀ j, j < s.1.length → (s.1.getD j ([], 0)).1.getD v 0 = 0) : stepZ n v s = s := by
  have e : s.1.findIdx? (fun r => decide (r.1.getD v 0 ≠ 0)) = none := by
    rw [List.findIdx?_eq_none_iff]
    intro x hx
    obtain ⟨j, hj, rfl⟩ := List.getElem_of_mem hx
    rw [← fm_getD hj]; simpa using h0 j hj
  unfold stepZ
  rw [e]
theorem step_cases (n v : Nat) (s : List Fm × List Fm) : (stepZ n v s = s ∧ ∀ r ∈ s.1, r.1.getD v 0 = 0) ∨ ∃ i, i < s.1.length ∧ (s.1.getD i ([], 0)).1.getD v 0 ≠ 0 ∧ stepZ n v s = stZ n v i s := by
  unfold stepZ
  cases e : s.1.findIdx? (fun r => decide (r.1.getD v 0 ≠ 0)) with
  | none => exact .inl ⟨rfl, fun r hr => by simpa using (List.findIdx?_eq_none_iff.1 e) r hr⟩
  | some i =>
    obtain ⟨hi, h1, _⟩ := List.findIdx?_eq_some_iff_getElem.1 e
    exact .inr ⟨i, hi, by rw [fm_getD hi]; simpa using h1, rfl⟩
/-- What holds behind v rounds. -/
structure SoI (n v : Nat) (L : List Vc) (s : List Fm × List Fm) : Prop where
  len : ∀ r ∈ s.1, r.1.length = n
  zer : ∀ r ∈ s.1, ∀ j, j < v → r.1.getD j 0 = 0
  out : ∃ C : Nat → Option Fm, (∀ k, v ≤ k → C k = none) ∧ Inv n (fun k => (C k).map rowF) (s.2.map (fun r => rv (rowF r))) ∧ s.2 = (List.range n).filterMap C
  span : ∀ x, Sp ((s.1 ++ s.2).map fun r => rv (rowF r)) x ↔ Sp L x
theorem flat_C (n : Nat) (C : Nat → Option Fm) : flatF n (fun k => (C k).map rowF) = ((List.range n).filterMap C).map rowF := by
  unfold flatF; rw [List.map_filterMap]
theorem SoI.start {n : Nat} {l : List Fm} (h : ∀ r ∈ l, r.1.length = n) : SoI n 0 (l.map fun r => rv (rowF r)) (l, []) := by
  refine ⟨h, fun r _ j hj => absurd hj (by omega), ⟨fun _ => none, fun _ _ => rfl, Inv.start n, ?_⟩, fun x => by rw [List.append_nil]⟩
  exact (List.filterMap_eq_nil_iff.2 fun _ _ => rfl).symm
theorem fill_C {α : Type} (n v : Nat) (C : Nat → Option α) (f : α → α) (p : α) (hC : ∀ k, v ≤ k → C k = none) (hv : v < n) :
    (List.range n).filterMap (fun k => if k = v then some p else (C k).map f) = ((List.range n).filterMap C).map f ++ [p] := by
  obtain ⟨m, rfl⟩ : ∃ m, n = v + 1 + m := ⟨n - (v + 1), by omega⟩
  clear hv
  induction m with
  | zero =>
    rw [Nat.add_zero, List.range_succ, List.filterMap_append, List.filterMap_append]
    have e1 : (List.range v).filterMap (fun k => if k = v then some p else (C k).map f) = ((List.range v).filterMap C).map f := by
      rw [List.map_filterMap]
      have hg : ∀ ks : List Nat, (∀ k ∈ ks, k < v) → ks.filterMap (fun k => if k = v then some p else (C k).map f) = ks.filterMap fun k => (C k).map f := by
        intro ks
        induction ks with
        | nil => exact fun _ => rfl
        | cons k ks ih =>
          intro hk
          rw [List.filterMap_cons, List.filterMap_cons, if_neg (by have := hk k (by simp); omega), ih fun k hk' => hk k (by simp [hk'])]
      exact hg _ fun k hk => List.mem_range.1 hk
    have e2 : [v].filterMap C = [] := by simp [hC v (Nat.le_refl _)]
    have e3 : [v].filterMap (fun k => if k = v then some p else (C k).map f) = [p] := by simp
    rw [e1, e2, e3, List.append_nil]
  | succ m ih =>
    rw [← Nat.add_assoc, List.range_succ, List.filterMap_append, List.filterMap_append, ih]
    have e2 : [v + 1 + m].filterMap C = [] := by simp [hC (v + 1 + m) (by omega)]
    have e3 : [v + 1 + m].filterMap (fun k => if k = v then some p else (C k).map f) = [] := by
      simp [hC (v + 1 + m) (by omega)]; omega
    rw [e2, e3, List.append_nil, List.append_nil]
theorem st_rest {s : List Fm × List Fm} {i : Nat} {r : Fm} (h : r ∈ s.1.take i ++ s.1.drop (i + 1)) : r ∈ s.1 := by
  rcases List.mem_append.1 h with h | h
  · exact List.mem_of_mem_take h
  · exact List.mem_of_mem_drop h
theorem st_all {s : List Fm × List Fm} {i : Nat} {r : Fm} (hi : i < s.1.length) (h : r ∈ s.1) : r = s.1.getD i ([], 0) ∨ r ∈ s.1.take i ++ s.1.drop (i + 1) := by
  have e : s.1 = s.1.take i ++ s.1[i] :: s.1.drop (i + 1) := by
    rw [List.getElem_cons_drop]; exact (List.take_append_drop i s.1).symm
  rw [fm_getD hi]
  rw [e] at h
  rcases List.mem_append.1 h with h | h
  · exact .inr (List.mem_append_left _ h)
  · rcases List.mem_cons.1 h with h | h
    · exact .inl h
    · exact .inr (List.mem_append_right _ h)
theorem SoI.row {n v : Nat} {L : List Vc} {s : List Fm × List Fm} (h : SoI n v L s) {r : Fm} (hr : r ∈ s.2) : r.1.length = n := by
  obtain ⟨C, hC, hI, e⟩ := h.out
  rw [e] at hr
  obtain ⟨k, _, hk⟩ := List.mem_filterMap.1 hr
  have := (hI.row k (rowF r) (by rw [hk]; rfl)).2.1
  rwa [rowF_len] at this
theorem SoI.step {n v i : Nat} {L : List Vc} {s : List Fm × List Fm} (h : SoI n v L s) (hv : v < n) (hi : i < s.1.length) (h1 : (s.1.getD i ([], 0)).1.getD v 0 ≠ 0) : SoI n (v + 1) L (stZ n v i s) := by
  have hm : s.1.getD i ([], 0) ∈ s.1 := by rw [fm_getD hi]; exact List.getElem_mem hi
  have hl0 := h.len _ hm
  obtain ⟨p1, p2, p3, p4, c0, hc0, p5⟩ := pi_spec hl0 hv (h.zer _ hm) h1
  have hrow := fun r hr => h.row (r := r) hr
  obtain ⟨C, hC, hI, hs2⟩ := h.out
  unfold stZ
  generalize hp0 : s.1.getD i ([], 0) = p0 at *
  generalize piZ n v p0 = p at *
  have pv : ∀ j, j < v → rv (rowF p) j = 0 := fun j hj => by rw [rowF_at p j (by omega), p2 j hj]; rfl
  have pp : 0 < rv (rowF p) v := by rw [rowF_at p v (by omega)]; exact Rat.intCast_pos.2 p3
  have hmem : ∀ k r, C k = some r → r ∈ s.2 ∧ k < v := fun k r e => by
    have hk := (hI.row k (rowF r) (by rw [e]; rfl)).1
    refine ⟨by rw [hs2]; exact List.mem_filterMap.2 ⟨k, List.mem_range.2 hk, e⟩, ?_⟩
    rcases Nat.lt_or_ge k v with h | h
    · exact h
    · rw [hC k h] at e; exact absurd e (by simp)
  have hC' : ∀ k q, ((fun k => if k = v then some p else (C k).map (clZ n v p)) k).map rowF = some q → (k = v ∧ q = rowF p) ∨ (k < v ∧ ∃ r, C k = some r ∧ q = rowF (clZ n v p r)) := by
    intro k q e
    by_cases hk : k = v
    · simp only [if_pos hk, Option.map_some, Option.some.injEq] at e
      exact .inl ⟨hk, e.symm⟩
    · simp only [if_neg hk] at e
      cases hc : C k with
      | none => rw [hc] at e; exact absurd e (by simp)
      | some r =>
        rw [hc] at e
        simp only [Option.map_some, Option.some.injEq] at e
        exact .inr ⟨(hmem k r hc).2, r, rfl, e.symm⟩
  have hold : ∀ k r, C k = some r → ∃ a b : Rat, 0 < a ∧ (∀ j, rv (rowF (clZ n v p r)) j = a * rv (rowF r) j + b * rv (rowF p) j) ∧ rv (rowF (clZ n v p r)) v = 0 ∧ (Pm (rv (rowF r)) → (∃ j, rv (rowF (clZ n v p r)) j ≠ 0) → Pm (rv (rowF (clZ n v p r)))) := fun k r e => cl_spec p1 (hrow r (hmem k r e).1) hv p3
  have posne : ∀ x : Rat, 0 < x → x ≠ 0 := fun x hx h => by rw [h] at hx; exact absurd hx (by decide)
  refine ⟨fun r hr => ?_, fun r hr j hj => ?_, ⟨fun k => if k = v then some p else (C k).map (clZ n v p), fun k hk => ?_, ⟨fun k q e => ?_, fun k q k' q' e e' hne => ?_, fun x => ?_⟩, ?_⟩, fun x => ?_⟩
  · obtain ⟨y, hy, rfl⟩ := List.mem_map.1 hr
    exact clZ_len (h.len y (st_rest hy))
  · obtain ⟨y, hy, rfl⟩ := List.mem_map.1 hr
    have hly := h.len y (st_rest hy)
    obtain ⟨a, b, ha, e1, e2, _⟩ := cl_spec p1 hly hv p3
    have hlc := clZ_len (n := n) (v := v) (q := p) hly
    refine Rat.intCast_eq_zero_iff.1 ((rowF_at _ j (by omega)).symm.trans ?_)
    rcases Nat.lt_or_ge j v with hj' | hj'
    · rw [e1, pv j hj', rowF_at y j (by omega), h.zer y (st_rest hy) j hj']
      show a * 0 + b * 0 = 0
      grind
    · have : j = v := by omega
      rw [this]; exact e2
  · show (if k = v then some p else (C k).map (clZ n v p)) = none
    rw [if_neg (by omega), hC k (by omega)]; rfl
  · rcases hC' k q e with ⟨rfl, rfl⟩ | ⟨hk, r, hr, rfl⟩
    · exact ⟨hv, by rw [rowF_len]; exact p1, ⟨posne _ pp, pv⟩, pp, p4⟩
    · obtain ⟨i1, i2, i3, i4, i5⟩ := hI.row k (rowF r) (by rw [hr]; rfl)
      obtain ⟨a, b, ha, e1, e2, e3⟩ := hold k r hr
      have hlr := hrow r (hmem k r hr).1
      have hk0 : 0 < rv (rowF (clZ n v p r)) k := by rw [e1, pv k hk]; have := Rat.mul_pos ha i4; grind
      refine ⟨i1, by rw [rowF_len]; exact clZ_len hlr, ⟨posne _ hk0, fun j hj => ?_⟩, hk0, e3 i5 ⟨k, posne _ hk0⟩⟩
      rw [e1, pv j (by omega), i3.2 j hj]; grind
  · rcases hC' k q e with ⟨rfl, rfl⟩ | ⟨hk, r, hr, rfl⟩
    · rcases hC' k' q' e' with ⟨rfl, rfl⟩ | ⟨hk', r', hr', rfl⟩
      · exact absurd rfl hne
      · exact pv k' hk'
    · obtain ⟨a, b, ha, e1, e2, e3⟩ := hold k r hr
      rcases hC' k' q' e' with ⟨rfl, rfl⟩ | ⟨hk', r', hr', rfl⟩
      · exact e2
      · rw [e1, pv k' hk', hI.alone k (rowF r) k' (rowF r') (by rw [hr]; rfl) (by rw [hr']; rfl) hne]; grind
  · rw [flat_C, fill_C n v C _ p hC hv, ← hs2]
    simp [List.map_map, Function.comp_def]
  · show s.2.map (clZ n v p) ++ [p] = _
    rw [fill_C n v C _ p hC hv, ← hs2]
  · refine Iff.trans (sp_eq (fun a ha => ?_) (fun a ha => ?_) x) (h.span x)
    · obtain ⟨y, hy, rfl⟩ := List.mem_map.1 ha
      have hin : ∀ r, r ∈ s.1 ++ s.2 → Sp ((s.1 ++ s.2).map fun r => rv (rowF r)) (rv (rowF r)) := fun r hr => Sp.mem (List.mem_map.2 ⟨r, hr, rfl⟩)
      have hpS : Sp ((s.1 ++ s.2).map fun r => rv (rowF r)) (rv (rowF p)) := by
        have e : rv (rowF p) = fun k => c0 * rv (rowF p0) k := funext p5
        rw [e]; exact (hin p0 (List.mem_append_left _ hm)).smul c0
      have hcl : ∀ r, r ∈ s.1 ++ s.2 → r.1.length = n → Sp ((s.1 ++ s.2).map fun r => rv (rowF r)) (rv (rowF (clZ n v p r))) := fun r hr hl => by
        obtain ⟨a, b, ha, e1, _⟩ := cl_spec (v := v) p1 hl hv p3
        have e : rv (rowF (clZ n v p r)) = fun k => a * rv (rowF r) k + b * rv (rowF p) k := funext e1
        rw [e]; exact (hin r hr).lin hpS a b
      rcases List.mem_append.1 hy with hy | hy
      · obtain ⟨r, hr, rfl⟩ := List.mem_map.1 hy
        exact hcl r (List.mem_append_left _ (st_rest hr)) (h.len r (st_rest hr))
      · rcases List.mem_append.1 hy with hy | hy
        · obtain ⟨r, hr, rfl⟩ := List.mem_map.1 hy
          exact hcl r (List.mem_append_right _ hr) (hrow r hr)
        · rw [List.mem_singleton] at hy; subst hy; exact hpS
    · obtain ⟨y, hy, rfl⟩ := List.mem_map.1 ha
      generalize hT : (((s.1.take i ++ s.1.drop (i + 1)).map (clZ n v p) ++ (s.2.map (clZ n v p) ++ [p])).map fun r => rv (rowF r)) = T
      have hin : ∀ r, r ∈ (s.1.take i ++ s.1.drop (i + 1)).map (clZ n v p) ++ (s.2.map (clZ n v p) ++ [p]) → Sp T (rv (rowF r)) := fun r hr => hT ▸ Sp.mem (List.mem_map.2 ⟨r, hr, rfl⟩)
      have hpS := hin p (by simp)
      have hcl : ∀ r, r.1.length = n → Sp T (rv (rowF (clZ n v p r))) → Sp T (rv (rowF r)) := fun r hl hr => by
        obtain ⟨a, b, ha, e1, _⟩ := cl_spec (v := v) p1 hl hv p3
        have e : rv (rowF r) = fun k => (1 / a) * rv (rowF (clZ n v p r)) k + (-(b / a)) * rv (rowF p) k := by
          funext k; rw [e1]; have := posne a ha; grind
        rw [e]; exact hr.lin hpS _ _
      rcases List.mem_append.1 hy with hy | hy
      · rcases st_all hi hy with e | hy2
        · rw [hp0] at e
          subst e
          have e : rv (rowF y) = fun k => (1 / c0) * rv (rowF p) k := by
            funext k; rw [p5]; grind
          rw [e]; exact hpS.smul _
        · exact hcl y (h.len y hy) (hin _ (List.mem_append_left _ (List.mem_map.2 ⟨y, hy2, rfl⟩)))
      · exact hcl y (hrow y hy) (hin _ (List.mem_append_right _ (List.mem_append_left _ (List.mem_map.2 ⟨y, hy, rfl⟩))))
theorem SoI.same {n v : Nat} {L : List Vc} {s : List Fm × List Fm} (h : SoI n v L s) (h0 : ∀ r ∈ s.1, r.1.getD v 0 = 0) : SoI n (v + 1) L s := by
  obtain ⟨C, hC, hI, e⟩ := h.out
  refine ⟨h.len, fun r hr j hj => ?_, ⟨C, fun k hk => hC k (by omega), hI, e⟩, h.span⟩
  rcases Nat.lt_or_ge j v with hj' | hj'
  · exact h.zer r hr j hj'
  · have : j = v := by omega
    rw [this]; exact h0 r hr
theorem ruZ_inv {n : Nat} {l : List Fm} (h : ∀ r ∈ l, r.1.length = n) (v : Nat) (hv : v ≤ n) : SoI n v (l.map fun r => rv (rowF r)) (ruZ n l v) := by
  induction v with
  | zero => exact SoI.start h
  | succ v ih =>
    have ih := ih (by omega)
    rcases step_cases n v (ruZ n l v) with ⟨e, h0⟩ | ⟨i, hi, h1, e⟩
    · show SoI n (v + 1) _ (stepZ n v (ruZ n l v)); rw [e]; exact ih.same h0
    · show SoI n (v + 1) _ (stepZ n v (ruZ n l v)); rw [e]; exact ih.step (by omega) hi h1
/-- Solved finds the echelon form, or there is no solution. -/
theorem solved_spec {n : Nat} {l : List Fm} (h : ∀ r ∈ l, r.1.length = n) :
    match soZ n l with
    | some R => Ech n (l.map fun r => rv (rowF r)) (R.map fun r => rv (rowF r)) ∧ ∀ r ∈ R, r.1.length = n
    | none => ∃ x, Sp (l.map fun r => rv (rowF r)) x ∧ Ld x n := by
  have hI := ruZ_inv h n (Nat.le_refl n)
  unfold soZ
  by_cases h0 : ∀ r ∈ (ruZ n l n).1, r.2 = 0
  · rw [if_pos h0]
    refine ⟨?_, fun r hr => hI.row hr⟩
    obtain ⟨C, hC, hV, e⟩ := hI.out
    have h1 : Inv n (fun k => (C k).map rowF) (l.map fun r => rv (rowF r)) := by
      refine ⟨hV.row, hV.alone, fun x => ?_⟩
      rw [flat_C, ← e]
      refine Iff.trans ?_ (hI.span x)
      have e2 : ((ruZ n l n).2.map rowF).map rv = (ruZ n l n).2.map fun r => rv (rowF r) := by rw [List.map_map]; rfl
      rw [e2]
      refine sp_eq (fun a ha => ?_) (fun a ha => ?_) x
      · exact Sp.mem (by rw [List.map_append]; exact List.mem_append_right _ ha)
      · rw [List.map_append] at ha
        rcases List.mem_append.1 ha with ha | ha
        · obtain ⟨r, hr, rfl⟩ := List.mem_map.1 ha
          have : rv (rowF r) = vz := by
            funext k
            have hl := hI.len r hr
            rcases Nat.lt_trichotomy k n with hk | hk | hk
            · rw [rowF_at r k (by omega), hI.zer r hr k hk]; rfl
            · have := rv_add (rowF r)
              rw [rowF_len, hl] at this
              rw [hk, this]
              show ((r.2 : Int) : Rat) = 0
              rw [h0 r hr]; rfl
            · exact rv_gt _ _ (by rw [rowF_len]; omega)
          rw [this]; exact Sp.zero _
        · exact Sp.mem ha
    have h2 := h1.ech
    rw [flat_C, ← e, List.map_map] at h2
    exact h2
  · rw [if_neg h0]
    obtain ⟨r, hr⟩ := Classical.not_forall.1 h0
    obtain ⟨hr, hne⟩ := Classical.not_imp.1 hr
    have hl := hI.len r hr
    refine ⟨rv (rowF r), (hI.span _).1 (Sp.mem (by rw [List.map_append]; exact List.mem_append_left _ (List.mem_map.2 ⟨r, hr, rfl⟩))), ?_, fun k hk => ?_⟩
    · have := rv_add (rowF r)
      rw [rowF_len, hl] at this
      rw [this]
      exact fun h => hne (Rat.intCast_eq_zero_iff.1 h)
    · rw [rowF_at r k (by omega), hI.zer r hr k hk]; rfl
/-- It is what lin.Rows finds. -/
theorem solved_rows {n : Nat} {l : List Fm} (h : ∀ r ∈ l, r.1.length = n) : rowsF n (l.map rowF) = (soZ n l).map (·.map rowF) := by
  have h1 := rows_spec (n := n) (l.map rowF) (fun q hq => by obtain ⟨r, hr, rfl⟩ := List.mem_map.1 hq; rw [rowF_len]; exact h r hr)
  have h2 := solved_spec h
  have e : (l.map rowF).map rv = l.map fun r => rv (rowF r) := by rw [List.map_map]; rfl
  rw [e] at h1
  cases e1 : rowsF n (l.map rowF) with
  | none =>
    rw [e1] at h1
    cases e2 : soZ n l with
    | none => rfl
    | some R =>
      rw [e2] at h2
      obtain ⟨x, hx, hl⟩ := h1
      exact absurd hl (h2.1.no hx)
  | some Q =>
    rw [e1] at h1
    cases e2 : soZ n l with
    | none =>
      rw [e2] at h2
      obtain ⟨x, hx, hl⟩ := h2
      exact absurd hl (h1.1.no hx)
    | some R =>
      rw [e2] at h2
      have h3 := h1.1.eq h2.1
      show some Q = some (R.map rowF)
      congr 1
      have hlen : Q.length = R.length := by have := congrArg List.length h3; simpa using this
      refine List.ext_getElem (by simpa using hlen) fun i a b => ?_
      rw [List.getElem_map]
      have hb : i < R.length := by simpa using b
      refine rv_inj ?_ ?_
      · rw [h1.2 _ (List.getElem_mem a), rowF_len, h2.2 _ (List.getElem_mem hb)]
      · have := congrArg (fun t : List Vc => t[i]?) h3
        simp only [List.getElem?_map, List.getElem?_eq_getElem a, List.getElem?_eq_getElem hb, Option.map_some, Option.some.injEq] at this
        exact this
/-- The sizes behind v rounds. -/
def SoS (K : Nat) (s : List Fm × List Fm) : Prop := ∀ r ∈ s.1 ++ s.2, (∀ j, Sz K (r.1.getD j 0)) ∧ Sz K r.2
theorem pm_sz {n K : Nat} {r : Fm} (h : (∀ j, Sz K (r.1.getD j 0)) ∧ Sz K r.2) : (∀ j, Sz K ((pmZ n r).1.getD j 0)) ∧ Sz K (pmZ n r).2 :=
  ⟨fun j => map_sz (fun z hz => pz_sz hz) h.1 j, pz_sz h.2⟩
theorem pi_sz {n v K : Nat} {r : Fm} (h : (∀ j, Sz K (r.1.getD j 0)) ∧ Sz K r.2) : (∀ j, Sz K ((piZ n v r).1.getD j 0)) ∧ Sz K (piZ n v r).2 := by
  have h1 := pm_sz (n := n) h
  unfold piZ
  split
  · exact ⟨fun j => map_sz (f := fun x => -x) (fun z hz => hz.neg) h1.1 j, h1.2.neg⟩
  · exact h1
theorem cl_sz {n v K : Nat} {q r : Fm} (hq : (∀ j, Sz K (q.1.getD j 0)) ∧ Sz K q.2) (h : (∀ j, Sz K (r.1.getD j 0)) ∧ Sz K r.2) : (∀ j, Sz (K + K + 1) ((clZ n v q r).1.getD j 0)) ∧ Sz (K + K + 1) (clZ n v q r).2 := by
  unfold clZ
  split
  · exact ⟨fun j => (h.1 j).mono (by omega), h.2.mono (by omega)⟩
  · exact pm_sz ⟨fun j => plZ_sz n (fun j => map_sz (f := (· * q.1.getD v 0)) (fun z hz => hz.mul (hq.1 v)) h.1 j) (fun j => map_sz (f := (· * (-r.1.getD v 0))) (fun z hz => hz.mul (h.1 v).neg) hq.1 j) j, (h.2.mul (hq.1 v)).add (hq.2.mul (h.1 v).neg)⟩
theorem SoS.step {n v i K : Nat} {s : List Fm × List Fm} (h : SoS K s) (hi : i < s.1.length) : SoS (K + K + 1) (stZ n v i s) := by
  have hm : s.1.getD i ([], 0) ∈ s.1 := by rw [fm_getD hi]; exact List.getElem_mem hi
  have hp := pi_sz (n := n) (v := v) (h _ (List.mem_append_left _ hm))
  intro r hr
  rcases List.mem_append.1 hr with hr | hr
  · obtain ⟨y, hy, rfl⟩ := List.mem_map.1 hr
    exact cl_sz hp (h y (List.mem_append_left _ (st_rest hy)))
  · rcases List.mem_append.1 hr with hr | hr
    · obtain ⟨y, hy, rfl⟩ := List.mem_map.1 hr
      exact cl_sz hp (h y (List.mem_append_right _ hy))
    · rw [List.mem_singleton] at hr; subst hr
      exact ⟨fun j => (hp.1 j).mono (by omega), hp.2.mono (by omega)⟩
/-- The size behind v rounds. -/
def kS : Nat → Nat
  | 0 => 100
  | v + 1 => kS v + kS v + 1
theorem kS_le {v : Nat} (h : v ≤ 8) : kS v ≤ 100000 := by
  have e : ∀ v, v ≤ 8 → kS v ≤ kS 8 := by
    intro v hv
    have hm : ∀ a, kS a ≤ kS (a + 1) := fun a => by show kS a ≤ kS a + kS a + 1; omega
    have : ∀ d a, kS a ≤ kS (a + d) := fun d => by
      induction d with
      | zero => intro a; exact Nat.le_refl _
      | succ d ih => intro a; exact Nat.le_trans (ih a) (hm _)
    have := this (8 - v) v
    rwa [show v + (8 - v) = 8 by omega] at this
  exact Nat.le_trans (e v h) (by decide)
theorem ruZ_sz {n : Nat} {l : List Fm} (h : ∀ r ∈ l, (∀ j, Sz 100 (r.1.getD j 0)) ∧ Sz 100 r.2) (v : Nat) : SoS (kS v) (ruZ n l v) := by
  induction v with
  | zero => intro r hr; exact h r (by simpa [ruZ] using hr)
  | succ v ih =>
    show SoS (kS v + kS v + 1) (stepZ n v (ruZ n l v))
    rcases step_cases n v (ruZ n l v) with ⟨e, h0⟩ | ⟨i, hi, h1, e⟩
    · rw [e]; exact fun r hr => ⟨fun j => ((ih r hr).1 j).mono (by omega), (ih r hr).2.mono (by omega)⟩
    · rw [e]; exact ih.step hi
/-- The rows do not become more. -/
theorem ruZ_len {n : Nat} (l : List Fm) (v : Nat) : (ruZ n l v).1.length + (ruZ n l v).2.length = l.length := by
  induction v with
  | zero => simp [ruZ]
  | succ v ih =>
    show (stepZ n v (ruZ n l v)).1.length + (stepZ n v (ruZ n l v)).2.length = l.length
    rcases step_cases n v (ruZ n l v) with ⟨e, h0⟩ | ⟨i, hi, h1, e⟩
    · rw [e]; exact ih
    · rw [e]; simp [stZ]; omega
theorem soZ_facts {n : Nat} {l : List Fm} (hl : ∀ r ∈ l, r.1.length = n) (hz : ∀ r ∈ l, (∀ j, Sz 100 (r.1.getD j 0)) ∧ Sz 100 r.2) : ∀ r ∈ (soZ n l).getD [], r.1.length = n ∧ (∀ j, Sz (kS n) (r.1.getD j 0)) ∧ Sz (kS n) r.2 := by
  intro r hr
  unfold soZ at hr
  by_cases h0 : ∀ r ∈ (ruZ n l n).1, r.2 = 0
  · rw [if_pos h0] at hr
    exact ⟨(ruZ_inv hl n (Nat.le_refl n)).row hr, ruZ_sz hz n r (List.mem_append_right _ hr)⟩
  · rw [if_neg h0] at hr
    cases hr
end Go.Proofs.YtloplmmnmehkmaaGreat

namespace Go.Proofs.YtloplmmnmehkmaaGreat
open Go.RowKit

theorem Kind.Own.far2 {α β : Type} {K : Kind α β} (h : K.Ok) {w w' : World} {base n : Nat} {v : Value} {R : List β} (ho : K.Own w base v n R) (hs : ∀ b, v.ownBlock = some b → w'.heap[b]? = w.heap[b]?) (k : ∀ t, K.E ≠ t → Kp t w w') : K.Own w' base v n R := by
  obtain ⟨l, h1, h2, h3, h4⟩ := ho
  refine ⟨l, ⟨h1.1, ?_⟩, h2, h3, fun j hj => h.kp _ _ _ _ (h4 j hj) k⟩
  rcases h1.2 with h0 | ⟨g', cap', cur, rfl, hb, hg, r⟩
  · exact .inl h0
  · exact .inr ⟨g', cap', cur, rfl, hb, (hs g' rfl).trans hg, r⟩
theorem addo (g o j : Nat) : (⟨g, o, none⟩ : Addr).add j = ⟨g, o + j, none⟩ := by
  unfold Addr.add
  split
  · rename_i h; rw [h]; rfl
  · rfl
theorem add0 (g j : Nat) : (⟨g, 0, none⟩ : Addr).add j = ⟨g, j, none⟩ := by
  unfold Addr.add
  split
  · rename_i h; rw [h]
  · simp
/-- Rows that are read as a source of append. -/
def SrcW (W : World) (A : Option Addr) (m : Nat) (R : List Fm) : Prop :=
  ∃ l : List WJ, l.length = m ∧ R.length = m ∧ (A = none → m = 0) ∧ (∀ a, A = some a → ∀ j u, (gcl KW.cl l)[j]? = some u → W.cell? (a.add j) = some u) ∧ ∀ j, j < m → KW.Is W (l.getD j KW.d) (R.getD j KW.e)
theorem gcl_drop (l : List WJ) (i : Nat) : gcl KW.cl (l.drop i) = (gcl KW.cl l).drop (i * 4) := by
  induction l generalizing i with
  | nil => simp [gcl]
  | cons y l ih =>
    cases i with
    | zero => rfl
    | succ i =>
      show gcl KW.cl (l.drop i) = (KW.cl y ++ gcl KW.cl l).drop ((i + 1) * 4)
      have h2 : (KW.cl y).length = 4 := rfl
      rw [show (i + 1) * 4 = (KW.cl y).length + i * 4 by rw [h2]; omega, List.drop_append, ih, List.drop_eq_nil_of_le (show (KW.cl y).length ≤ (KW.cl y).length + i * 4 by omega), List.nil_append, Nat.add_sub_cancel_left]
theorem gcl_take (l : List WJ) (i : Nat) : gcl KW.cl (l.take i) = (gcl KW.cl l).take (i * 4) := by
  induction l generalizing i with
  | nil => simp [gcl]
  | cons y l ih =>
    cases i with
    | zero => rfl
    | succ i =>
      show KW.cl y ++ gcl KW.cl (l.take i) = (KW.cl y ++ gcl KW.cl l).take ((i + 1) * 4)
      have h2 : (KW.cl y).length = 4 := rfl
      rw [show (i + 1) * 4 = (KW.cl y).length + i * 4 by rw [h2]; omega, List.take_append, ih, List.take_of_length_le (show (KW.cl y).length ≤ (KW.cl y).length + i * 4 by omega), Nat.add_sub_cancel_left]
theorem getD_drop' {α : Type} (l : List α) (i j : Nat) (d : α) : (l.drop i).getD j d = l.getD (i + j) d := by
  rw [List.getD_eq_getElem?_getD, List.getElem?_drop, ← List.getD_eq_getElem?_getD]
theorem getD_take' {α : Type} (l : List α) (i j : Nat) (d : α) (h : j < i) : (l.take i).getD j d = l.getD j d := by
  rw [List.getD_eq_getElem?_getD, List.getElem?_take_of_lt h, ← List.getD_eq_getElem?_getD]
/-- The cells of a row of an owned list. -/
theorem KW.at {w : World} {base n : Nat} {v : Value} {R : List Fm} (h : KW.Own w base v n R) (j : Nat) (hj : j < n) :
    ∃ g c, v = .slice (some ⟨g, 0, none⟩) n c ∧ v.ownBlock = some g ∧ base ≤ g ∧ g < w.heap.size ∧ n ≤ c ∧ (∀ i, w.frozen? ⟨g, i, none⟩ = false) ∧ ∃ y : WJ, (w.cell? ⟨g, j * 4, none⟩ = some (.slice y.A y.n y.c) ∧ w.cell? ⟨g, j * 4 + 1, none⟩ = some (.int .i64 y.x.s) ∧ w.cell? ⟨g, j * 4 + 2, none⟩ = some (.bool y.x.g) ∧ w.cell? ⟨g, j * 4 + 3, none⟩ = some (.slice y.x.A y.x.n y.x.c)) ∧ RdT w y.A y.n (R.getD j ([], 0)).1 ∧ y.x.Is w (R.getD j ([], 0)).2 := by
  obtain ⟨l, h1, h2, h3, h4⟩ := h
  rcases h1.2 with ⟨_, h0⟩ | ⟨g, cap, cur, rfl, hb, hg, hc, r⟩
  · omega
  · refine ⟨g, cap, rfl, rfl, hb, blk_lt hg, hc, fun i => (blk_cell hg i).2, l.getD j KW.d, ?_, (h4 j hj).1, (h4 j hj).2⟩
    have k : ∀ i, i < 4 → w.cell? ⟨g, j * 4 + i, none⟩ = (KW.cl (l.getD j KW.d))[i]? := fun i hi => by
      have e := gcl_at KW.ok l j i (by omega) hi
      have e2 := h1.cellAt (j * 4 + i) (by show _ < n * 4; omega)
      exact e2.trans e
    exact ⟨k 0 (by omega), k 1 (by omega), k 2 (by omega), k 3 (by omega)⟩
theorem KW.src {w : World} {base n g c : Nat} {R : List Fm} (h : KW.Own w base (.slice (some ⟨g, 0, none⟩) n c) n R) (o m : Nat) (hm : o + m ≤ n) {a : Addr} (ha : m = 0 ∨ a = ⟨g, o * 4, none⟩) : SrcW w (some a) m ((R.drop o).take m) := by
  obtain ⟨l, h1, h2, h3, h4⟩ := h
  refine ⟨(l.drop o).take m, by simp; omega, by simp; omega, nofun, fun a' ea j u hu => ?_, fun j hj => ?_⟩
  · cases ea
    rcases ha with rfl | rfl
    · simp [gcl] at hu
    · have hlt : j < m * 4 := by
        have := (List.getElem?_eq_some_iff.1 hu).1
        rw [gcl_take, List.length_take] at this
        omega
      rw [gcl_take, List.getElem?_take_of_lt hlt, gcl_drop, List.getElem?_drop] at hu
      have e2 := h1.cellAt (o * 4 + j) (by show _ < n * 4; omega)
      rw [addo g (o * 4) j]
      exact e2.trans hu
  · rw [getD_take' _ _ _ _ hj, getD_take' _ _ _ _ hj, getD_drop', getD_drop']
    exact h4 (o + j) (by omega)
theorem RdWJ.src {w : World} {A : Option Addr} {n : Nat} {R : List Fm} (h : RdWJ w A n R) : SrcW w A n R := by
  obtain ⟨h1, h2, h3⟩ := h
  rcases Nat.eq_zero_or_pos n with rfl | hp
  · exact ⟨[], rfl, h1, fun _ => rfl, fun a _ j u hu => by simp [gcl] at hu, fun j hj => absurd hj (by omega)⟩
  · obtain ⟨g, rfl, hb, hc⟩ := h3 hp
    have hch : ∀ m, m ≤ n → ∃ l : List WJ, l.length = m ∧ ∀ j, j < m → (∀ i, i < 4 → w.cell? ⟨g, j * 4 + i, none⟩ = (KW.cl (l.getD j KW.d))[i]?) ∧ KW.Is w (l.getD j KW.d) (R.getD j KW.e) := by
      intro m
      induction m with
      | zero => exact fun _ => ⟨[], rfl, fun j hj => absurd hj (by omega)⟩
      | succ m ih =>
        intro hm
        obtain ⟨l, hl, hy⟩ := ih (by omega)
        obtain ⟨y, ⟨p0, p1, p2, p3⟩, t1, t2⟩ := hc m (by omega)
        refine ⟨l ++ [y], by simp [hl], fun j hj => ?_⟩
        rcases Nat.lt_or_ge j m with hjm | hjm
        · rw [show (l ++ [y]).getD j KW.d = l.getD j KW.d by rw [List.getD_eq_getElem?_getD, List.getElem?_append_left (by omega), ← List.getD_eq_getElem?_getD]]
          exact hy j hjm
        · have : j = m := by omega
          subst this
          rw [getD_app_one l y KW.d _ hl]
          refine ⟨fun i hi => ?_, t1, t2⟩
          rcases i with _ | _ | _ | _ | i
          · exact p0
          · exact p1
          · exact p2
          · exact p3
          · omega
    obtain ⟨l, hl, hy⟩ := hch n (Nat.le_refl _)
    refine ⟨l, hl, h1, nofun, fun a ea j u hu => ?_, fun j hj => (hy j hj).2⟩
    cases ea
    have hlt : j < l.length * 4 := by
      have := (List.getElem?_eq_some_iff.1 hu).1
      rw [gcl_len KW.ok] at this
      exact this
    have e : j = (j / 4) * 4 + j % 4 := by omega
    have e3 := (hy (j / 4) (by omega)).1 (j % 4) (by omega)
    have e4 := gcl_at KW.ok l (j / 4) (j % 4) (by omega) (show j % 4 < 4 by omega)
    rw [add0 g j]
    have e5 : (gcl KW.cl l)[j]? = (KW.cl (l.getD (j / 4) KW.d))[j % 4]? := by
      have e6 : j / 4 * KW.sz + j % 4 = j := by show j / 4 * 4 + j % 4 = j; omega
      rw [e6] at e4
      exact e4
    rw [← e] at e3
    rw [e3, ← e5]; exact hu
/-- append, with the place of what it hands back. -/
theorem appS {W : World} {base n m c : Nat} {v : Value} {R R2 : List Fm} {A : Option Addr} (ho : KW.Own W base v n R) (hs : SrcW W A m R2) (hn : n + m ≤ 1000000) (hb : base ≤ W.heap.size) :
    ∃ v' W', (Builtin.append_ #[78, 78] 78 #[v, .slice A m c]).run Tryz.prog W = .ok v' W' ∧ KW.Own W' base v' (n + m) (R ++ R2) ∧ W.grownBy W' v.ownBlock ∧ (v'.ownBlock = v.ownBlock ∨ v'.ownBlock = some W.heap.size) := by
  obtain ⟨i0, hi, hz0, hz1, hz2⟩ := info_parts info_rrow
  have hi2 : Tryz.prog.info? 60 = some i0 := hi
  obtain ⟨l2, hl2, hR2, hA, hnews, his⟩ := hs
  cases A with
  | none =>
    have hm := hA rfl
    subst hm
    have hr : R2 = [] := List.length_eq_zero_iff.1 hR2
    subst hr
    refine ⟨v, W, ?_, by rw [List.append_nil]; exact ho, World.grownBy.refl W _, .inl rfl⟩
    obtain ⟨l, h1, _⟩ := ho
    rcases h1.2 with ⟨rfl, rfl⟩ | ⟨g, cap, cur, rfl, _, _, hnc, _⟩
    · simp [Builtin.append_, run_underlying Tryz.underlying78, sizeOf, typeInfo, hi2, Builtin.lenOf, Builtin.firstCells]
    · simp [Builtin.append_, run_underlying Tryz.underlying78, sizeOf, typeInfo, hi2, Builtin.lenOf, Builtin.firstCells, hnc, storeCells]
  | some a =>
    obtain ⟨l, h1, h2, h3, h4⟩ := ho
    have hbb : (n + m) * 64 ≤ 140737488355328 := by omega
    obtain ⟨v', W', hrun, r1, r2, _, r4⟩ := run_append_own_at (P := Tryz.prog) (w := W) base 78 78 KW.E i0 _ KW.sz 64 Tryz.underlying78 hi hz0 hz1 hz2 rfl KW.ok.pos v n (gcl KW.cl l) h1 a m c (gcl KW.cl l2) (by rw [gcl_len KW.ok, hl2]) (hnews a rfl) (gcl_one KW.ok l2) (by simp only [maxLen]; omega) hbb hb
    have k1 : ∀ t, KW.E ≠ t → Kp t W W' := fun t ht => kp_grown h1 r2 ht
    refine ⟨v', W', hrun, ⟨l ++ l2, by rw [gcl_app]; exact r1, by rw [List.length_append, h2, hl2], by rw [List.length_append, h3, hR2], fun j hj => ?_⟩, r2, r4⟩
    rcases Nat.lt_or_ge j n with h5 | h5
    · rw [show (l ++ l2).getD j KW.d = l.getD j KW.d by rw [List.getD_eq_getElem?_getD, List.getElem?_append_left (by omega), ← List.getD_eq_getElem?_getD], show (R ++ R2).getD j KW.e = R.getD j KW.e by rw [List.getD_eq_getElem?_getD, List.getElem?_append_left (by omega), ← List.getD_eq_getElem?_getD]]
      exact KW.ok.kp _ _ _ _ (h4 j h5) k1
    · rw [show (l ++ l2).getD j KW.d = l2.getD (j - n) KW.d by rw [List.getD_eq_getElem?_getD, List.getElem?_append_right (by omega), h2, ← List.getD_eq_getElem?_getD], show (R ++ R2).getD j KW.e = R2.getD (j - n) KW.e by rw [List.getD_eq_getElem?_getD, List.getElem?_append_right (by omega), h3, ← List.getD_eq_getElem?_getD]]
      exact KW.ok.kp _ _ _ _ (his (j - n) (by omega)) k1
theorem KW.fresh (W : World) (base : Nat) (hb : base ≤ W.heap.size) : KW.Own (W.alloc (.cells #[] 60)) base (.slice (some ⟨W.heap.size, 0, none⟩) 0 0) 0 [] :=
  ⟨[], World.ownsRow_lit W #[] 0 hb (by decide) rfl, rfl, rfl, fun j hj => absurd hj (by omega)⟩
theorem gcl_set4 (l : List WJ) (j : Nat) (x : WJ) : ((((gcl KW.cl l).set (j * 4) (.slice x.A x.n x.c)).set (j * 4 + 1) (.int .i64 x.x.s)).set (j * 4 + 2) (.bool x.x.g)).set (j * 4 + 3) (.slice x.x.A x.x.n x.x.c) = gcl KW.cl (l.set j x) := by
  induction l generalizing j with
  | nil => simp [gcl]
  | cons y l ih =>
    cases j with
    | zero => rfl
    | succ j =>
      have h2 : (KW.cl y).length = 4 := rfl
      show ((((KW.cl y ++ gcl KW.cl l).set ((j + 1) * 4) _).set _ _).set _ _).set _ _ = KW.cl y ++ gcl KW.cl (l.set j x)
      rw [← ih j]
      rw [show (j + 1) * 4 = (KW.cl y).length + j * 4 by rw [h2]; omega]
      simp only [Nat.add_assoc, List.set_append_right _ _ (Nat.le_add_right _ _), Nat.add_sub_cancel_left]
/-- A row is stored. -/
def set4 (w : World) (g o : Nat) (y : WJ) : World := (((w.setCell ⟨g, o, none⟩ (.slice y.A y.n y.c)).setCell ⟨g, o + 1, none⟩ (.int .i64 y.x.s)).setCell ⟨g, o + 2, none⟩ (.bool y.x.g)).setCell ⟨g, o + 3, none⟩ (.slice y.x.A y.x.n y.x.c)
theorem set4_kp {w : World} {g o : Nat} {y : WJ} {cs : Array Value} (hg : w.heap[g]? = some (.cells cs 60 (0, 0))) (t : TypeId) (ht : 60 ≠ t) : Kp t w (set4 w g o y) :=
  ((((Kp.refl _ _).set (p := ⟨g, o, none⟩) hg ht _).set (p := ⟨g, o + 1, none⟩) (blk_set hg o _) ht _).set (p := ⟨g, o + 2, none⟩) (blk_set (blk_set hg o _) (o + 1) _) ht _).set (p := ⟨g, o + 3, none⟩) (blk_set (blk_set (blk_set hg o _) (o + 1) _) (o + 2) _) ht _
theorem set4_far {w : World} {g o : Nat} {y : WJ} {k : Nat} (hk : k ≠ g) : (set4 w g o y).heap[k]? = w.heap[k]? := by
  have e : ∀ (W : World) (i : Nat) (u : Value), (W.setCell ⟨g, i, none⟩ u).heap[k]? = W.heap[k]? := fun W i u => by
    cases h : W.heap[k]? with
    | some o => exact blk_far h hk
    | none =>
      have hs : (W.setCell ⟨g, i, none⟩ u).heap.size = W.heap.size := by simp
      rw [Array.getElem?_eq_none_iff] at h ⊢
      omega
  exact (e _ _ _).trans ((e _ _ _).trans ((e _ _ _).trans (e _ _ _)))
theorem set4_bl {w w0 : World} {B g o : Nat} {y : WJ} (h : Below B w0 w) (hg : B ≤ g) : Below B w0 (set4 w g o y) :=
  (((h.setCell (p := ⟨g, o, none⟩) hg _).setCell (p := ⟨g, o + 1, none⟩) hg _).setCell (p := ⟨g, o + 2, none⟩) hg _).setCell (p := ⟨g, o + 3, none⟩) hg _
theorem KW.set {w : World} {base n g c : Nat} {R : List Fm} (h : KW.Own w base (.slice (some ⟨g, 0, none⟩) n c) n R) (j : Nat) (hj : j < n) (y : WJ) (r : Fm) (hr : KW.Is w y r) : KW.Own (set4 w g (j * 4) y) base (.slice (some ⟨g, 0, none⟩) n c) n (R.set j r) := by
  obtain ⟨l, h1, h2, h3, h4⟩ := h
  have hb : ∃ cs, w.heap[g]? = some (.cells cs 60 (0, 0)) := by
    rcases h1.2 with ⟨h0, _⟩ | ⟨g', cap', cur, hv, hb, hg, r⟩
    · cases h0
    · cases hv; exact ⟨cur, hg⟩
  obtain ⟨cs, hb⟩ := hb
  have kp : ∀ t, KW.E ≠ t → Kp t w (set4 w g (j * 4) y) := fun t ht => set4_kp hb t ht
  refine ⟨l.set j y, ?_, by simpa using h2, by simpa using h3, fun i hi => ?_⟩
  · rw [← gcl_set4]
    exact ((((h1.stored (j * 4) _).1.stored (j * 4 + 1) _).1.stored (j * 4 + 2) _).1.stored (j * 4 + 3) _).1
  · by_cases e : i = j
    · subst e
      rw [List.getD_eq_getElem?_getD, List.getD_eq_getElem?_getD, List.getElem?_set_self (by omega), List.getElem?_set_self (by omega)]
      exact KW.ok.kp _ _ _ _ hr kp
    · rw [List.getD_eq_getElem?_getD, List.getD_eq_getElem?_getD, List.getElem?_set_ne (by omega), List.getElem?_set_ne (by omega), ← List.getD_eq_getElem?_getD, ← List.getD_eq_getElem?_getD]
      exact KW.ok.kp _ _ _ _ (h4 i hi) kp
theorem KW.blk {w : World} {base n g c : Nat} {R : List Fm} (h : KW.Own w base (.slice (some ⟨g, 0, none⟩) n c) n R) : ∃ cs, w.heap[g]? = some (.cells cs 60 (0, 0)) := by
  obtain ⟨l, h1, _⟩ := h
  rcases h1.2 with ⟨h0, _⟩ | ⟨g', cap', cur, hv, hb, hg, r⟩
  · cases h0
  · cases hv; exact ⟨cur, hg⟩
/-- The first t rows are done. -/
def mixZ (f : Fm → Fm) (t : Nat) (R : List Fm) : List Fm := (R.take t).map f ++ R.drop t
theorem mix_all (f : Fm → Fm) (R : List Fm) (t : Nat) (h : R.length = t) : mixZ f t R = R.map f := by
  unfold mixZ; rw [List.take_of_length_le (by omega), List.drop_eq_nil_of_le (by omega), List.append_nil]
theorem mix_at (f : Fm → Fm) (t : Nat) (R : List Fm) (h : t < R.length) : (mixZ f t R).getD t ([], 0) = R.getD t ([], 0) := by
  unfold mixZ
  rw [List.getD_eq_getElem?_getD, List.getElem?_append_right (by simp; omega), List.getElem?_drop]
  have : t + (t - ((R.take t).map f).length) = t := by simp; omega
  rw [this, ← List.getD_eq_getElem?_getD]
theorem mix_set (f : Fm → Fm) (t : Nat) (R : List Fm) (h : t < R.length) : (mixZ f t R).set t (f (R.getD t ([], 0))) = mixZ f (t + 1) R := by
  have hl : ((R.take t).map f).length = t := by simp; omega
  unfold mixZ
  rw [List.set_append_right _ _ (by omega), hl, Nat.sub_self, fm_getD h]
  have e1 : R.drop t = R[t] :: R.drop (t + 1) := (List.getElem_cons_drop h).symm
  have e2 : (R.take (t + 1)).map f = (R.take t).map f ++ [f R[t]] := by
    rw [List.take_succ_eq_append_getElem h, List.map_append]; rfl
  rw [e1, e2, List.set_cons_zero, List.append_assoc]; rfl
theorem Kind.Own.base {α β : Type} {K : Kind α β} {w : World} {b b' n : Nat} {v : Value} {R : List β} (h : K.Own w b v n R) (hb : b' ≤ b) : K.Own w b' v n R := by
  obtain ⟨l, h1, h2⟩ := h
  refine ⟨l, ⟨h1.1, ?_⟩, h2⟩
  rcases h1.2 with h0 | ⟨g, cap, cur, hv, hbg, r⟩
  · exact .inl h0
  · exact .inr ⟨g, cap, cur, hv, by omega, r⟩
theorem Kind.Own.lenR {α β : Type} {K : Kind α β} {w : World} {b n : Nat} {v : Value} {R : List β} (h : K.Own w b v n R) : R.length = n := by
  obtain ⟨l, _, _, e, _⟩ := h; exact e
/-- One row as a source. -/
theorem src_one {W : World} {g : Nat} {y : WJ} {r : Fm} (hg : W.heap[g]? = some (.cells #[.slice y.A y.n y.c, .int .i64 y.x.s, .bool y.x.g, .slice y.x.A y.x.n y.x.c] 60 (0, 0))) (h : KW.Is W y r) : SrcW W (some ⟨g, 0, none⟩) 1 [r] := by
  refine ⟨[y], rfl, rfl, nofun, fun a ea j u hu => ?_, fun j hj => ?_⟩
  · cases ea
    have e1 : gcl KW.cl [y] = [.slice y.A y.n y.c, .int .i64 y.x.s, .bool y.x.g, .slice y.x.A y.x.n y.x.c] := rfl
    rw [e1] at hu
    rw [add0 g j]
    have := (blk_cell hg j).1
    rw [this, ← hu]
    simp
  · have : j = 0 := by omega
    subst this
    exact h
theorem pi_ld {n v : Nat} {r : Fm} (hr : r.1.length = n) (hv : v < n) (hz : ∀ j, j < v → r.1.getD j 0 = 0) (h1 : r.1.getD v 0 ≠ 0) : ldZ (piZ n v r).1 = v := by
  obtain ⟨p1, p2, p3, _⟩ := pi_spec hr hv hz h1
  exact ldZ_hit (by omega) p2 (by omega)
/-- The cells of a row at an address. -/
def Row4 (W : World) (g o : Nat) (A : Option Addr) (n c : Nat) (x : JC) : Prop := W.cell? ⟨g, o, none⟩ = some (.slice A n c) ∧ W.cell? ⟨g, o + 1, none⟩ = some (.int .i64 x.s) ∧ W.cell? ⟨g, o + 2, none⟩ = some (.bool x.g) ∧ W.cell? ⟨g, o + 3, none⟩ = some (.slice x.A x.n x.c)
theorem RdWJ.row {w : World} {A : Option Addr} {m : Nat} {R : List Fm} (h : RdWJ w A m R) (j : Nat) (hj : j < m) : ∃ g, A = some ⟨g, 0, none⟩ ∧ g < w.heap.size ∧ ∃ (Ay : Option Addr) (ny cy : Nat) (x : JC), Row4 w g (j * 4) Ay ny cy x ∧ RdT w Ay ny (R.getD j ([], 0)).1 ∧ x.Is w (R.getD j ([], 0)).2 := by
  obtain ⟨g, e, ⟨_, hb⟩, hc⟩ := h.2.2 (by omega)
  obtain ⟨⟨Ay, ny, cy, x⟩, p, t⟩ := hc j hj
  exact ⟨g, e, blk_lt hb, Ay, ny, cy, x, p, t⟩
theorem RdT.int {w : World} {A : Option Addr} {n : Nat} {zs : List Int} (h : RdT w A n zs) (k : Nat) (hk : k < n) : ∃ g, A = some ⟨g, 0, none⟩ ∧ g < w.heap.size ∧ ∃ z : JC, w.cell? ⟨g, k * 3, none⟩ = some (.int .i64 z.s) ∧ w.cell? ⟨g, k * 3 + 1, none⟩ = some (.bool z.g) ∧ w.cell? ⟨g, k * 3 + 2, none⟩ = some (.slice z.A z.n z.c) ∧ RV w z.s z.g z.A z.n z.c (zs.getD k 0) := by
  obtain ⟨g, e, lg, hc⟩ := h.1.2.2 (by omega)
  obtain ⟨z, ⟨p1, p2, p3⟩, hz⟩ := hc k hk
  exact ⟨g, e, lg, z, p1, p2, p3, hz⟩
theorem Row4.below {w W : World} {g o : Nat} {A : Option Addr} {n c : Nat} {x : JC} (hg : g < w.heap.size) (h : Row4 w g o A n c x) (hb : Below w.heap.size w W) : Row4 W g o A n c x := by
  have k := (cells_below hb).1
  exact ⟨(k _ _ hg).trans h.1, (k _ _ hg).trans h.2.1, (k _ _ hg).trans h.2.2.1, (k _ _ hg).trans h.2.2.2⟩
end Go.Proofs.YtloplmmnmehkmaaGreat

namespace Go.Proofs.YtloplmmnmehkmaaGreat
open Go.RowKit

set_option maxHeartbeats 40000000
set_option maxRecDepth 100000
theorem r2solved_calls (n : Nat) (A : Option Addr) (m c : Nat) (F : List Fm) (w : World) (h : RdWJ w A m F) (hl : ∀ f ∈ F, f.1.length = n) (hz : ∀ f ∈ F, (∀ j, Sz 100 (f.1.getD j 0)) ∧ Sz 100 f.2) (hn : n ≤ 8) (hm : m ≤ 500) :
    Calls Tryz.prog 47 #[.int .i64 n, .slice A m c] w fun e w' => (∃ A' m' c', e = .returned (.tuple #[.slice A' m' c', .bool (soZ n F).isSome]) ∧ RdWJ w' A' m' ((soZ n F).getD [])) ∧ Below w.heap.size w w' := by
  have HI : Hid (∀ v, v ≤ n → SoI n v (F.map fun r => rv (rowF r)) (ruZ n F v)) := Lib.hid fun v hv => ruZ_inv hl v hv
  have HS : Hid (∀ v, SoS (kS v) (ruZ n F v)) := Lib.hid fun v => ruZ_sz hz v
  have HN : Hid (∀ v, (ruZ n F v).1.length + (ruZ n F v).2.length ≤ 500) := Lib.hid fun v => by rw [ruZ_len, h.1]; exact hm
  have HU0 : Hid ((ruZ n F 0).1 = F ∧ (ruZ n F 0).2 = []) := Lib.hid ⟨rfl, rfl⟩
  have HUS : Hid (∀ v, ruZ n F (v + 1) = stepZ n v (ruZ n F v)) := Lib.hid fun _ => rfl
  have HY : Hid ((∀ j, j < (ruZ n F n).1.length → ((ruZ n F n).1.getD j ([], 0)).2 = 0) → soZ n F = some (ruZ n F n).2) := Lib.hid fun h => if_pos fun r hr => by
    obtain ⟨j, hj, rfl⟩ := List.getElem_of_mem hr
    rw [← fm_getD hj]; exact h j hj
  have HNO : Hid (∀ j, j < (ruZ n F n).1.length → ((ruZ n F n).1.getD j ([], 0)).2 ≠ 0 → soZ n F = none) := Lib.hid fun j hj h => if_neg fun h2 => h (h2 _ (by rw [fm_getD hj]; exact List.getElem_mem hj))
  clear hl hz
  generalize soZ n F = T at *
  generalize ruZ n F = U at *
  generalize (F.map fun r => rv (rowF r)) = LV at *
  go_enter Tryz.func47, Tryz.ntmps47
  have O0 := KW.fresh w w.heap.size (Nat.le_refl _)
  have B0 := bl_alloc (Below.refl w.heap.size w) (.cells #[] 60)
  obtain ⟨v1, W1, hrun, O1, hgr, _⟩ := appS (c := c) O0 ((h.below B0).src) (by omega) B0.size
  have V1 := below_of_grown B0 hgr B0.size O0.ge
  have HR := Lib.hid hrun
  rw [List.nil_append, Nat.zero_add, ← HU0.out.1] at O1
  have O2 : KW.Own W1 w.heap.size (.slice none 0 0) 0 (U 0).2 := by rw [HU0.out.2]; exact Kind.Own.nil _ _
  clear hrun hgr O0 B0 h HU0
  go_wp2_with (at_builtin; refine wpList_ap rfl (.tmp 17) (.tmp 18) 78 (by rfl) _ _ (by rfl) (by rfl) _ (by rfl) _ _ HR.out ?_)
  clear HR
  go_loopw [6, 7, 21] (fun vr vo i wr => ∃ kk m1 m2 : Nat, kk ≤ n ∧ i = .int .i64 kk ∧ KW.Own wr w.heap.size vr m1 (U kk).1 ∧ KW.Own wr w.heap.size vo m2 (U kk).2 ∧ Hid (∀ b, vr.ownBlock = some b → vo.ownBlock ≠ some b) ∧ Below w.heap.size w wr) (fun _ _ i _ => n - (intOf i).toNat)
  case atStart => exact ⟨0, m, 0, Nat.zero_le _, rfl, O1, O2, Lib.hid fun b _ => nofun, V1⟩
  case round =>
    clear O1 O2 V1
    obtain ⟨kk, m1, m2, hkk, rfl, OR, OO, hd, B0⟩ := hrel
    generalize wr = W0 at *
    generalize u7 = vo at *
    have hm1 := OR.lenR
    have hm2 := OO.lenR
    have hmm := HN.out kk
    rw [hm1, hm2] at hmm
    obtain ⟨Ar, cr, rfl, hrd⟩ := KW.rd OR (by omega)
    by_cases hlt : kk < n
    · -- a column
      have hks := kS_le (v := kk) (by omega)
      have hks1 : 100 ≤ kS kk := by
        have : ∀ v, 100 ≤ kS v := fun v => by induction v with
          | zero => exact Nat.le_refl _
          | succ v ih => show 100 ≤ kS v + kS v + 1; omega
        exact this kk
      have HIk := Lib.hid (HI.out kk hkk)
      have HSk := Lib.hid (HS.out kk)
      have HST : Hid (∀ i, i < m1 → (∀ j, j < i → ((U kk).1.getD j ([], 0)).1.getD kk 0 = 0) → ((U kk).1.getD i ([], 0)).1.getD kk 0 ≠ 0 → U (kk + 1) = stZ n kk i (U kk)) := Lib.hid fun i hi h0 h1 => by rw [HUS.out kk]; exact step_hit (by rw [hm1]; exact hi) h0 h1
      have HSN : Hid ((∀ j, j < m1 → ((U kk).1.getD j ([], 0)).1.getD kk 0 = 0) → U (kk + 1) = U kk) := Lib.hid fun h0 => by rw [HUS.out kk]; exact step_none fun j hj => h0 j (by rw [← hm1]; exact hj)
      have HM1 := Lib.hid hm1
      have HM2 := Lib.hid hm2
      clear hm1 hm2
      have HNX : Hid (∃ x, x = U (kk + 1)) := Lib.hid ⟨_, rfl⟩
      generalize U kk = s at *
      have HG1 : Hid (∀ j, j < m1 → s.1.getD j ([], 0) ∈ s.1) := Lib.hid fun j hj => by rw [fm_getD (by rw [HM1.out]; exact hj)]; exact List.getElem_mem _
      have HG2 : Hid (∀ j, j < m2 → s.2.getD j ([], 0) ∈ s.2) := Lib.hid fun j hj => by rw [fm_getD (by rw [HM2.out]; exact hj)]; exact List.getElem_mem _
      have HL1 : Hid (∀ j, j < m1 → (s.1.getD j ([], 0)).1.length = n) := Lib.hid fun j hj => HIk.out.len _ (HG1.out j hj)
      have HL2 : Hid (∀ j, j < m2 → (s.2.getD j ([], 0)).1.length = n) := Lib.hid fun j hj => HIk.out.row (HG2.out j hj)
      clear HNX
      have HRD := Lib.hid hrd
      have HB0 := Lib.hid B0
      have HOR := Lib.hid OR
      have HOO := Lib.hid OO
      clear hrd B0 OR OO
      go_upto_block 2 with (fail)
      go_cut [9] (fun t wc => ((∃ i : Nat, i < m1 ∧ t = .int .i64 i ∧ Hid ((∀ j, j < i → (s.1.getD j ([], 0)).1.getD kk 0 = 0) ∧ (s.1.getD i ([], 0)).1.getD kk 0 ≠ 0)) ∨ (t = .int .i64 (-1) ∧ Hid (∀ j, j < m1 → (s.1.getD j ([], 0)).1.getD kk 0 = 0))) ∧ Below W0.heap.size W0 wc)
      case first =>
        go_wp2_with fail
        go_loopw [9, 26] (fun t i wx => ∃ jj : Nat, jj ≤ m1 ∧ t = .int .i64 (-1) ∧ i = .int .i64 jj ∧ Hid (∀ j, j < jj → (s.1.getD j ([], 0)).1.getD kk 0 = 0) ∧ Below W0.heap.size W0 wx) (fun _ i _ => m1 - (intOf i).toNat)
        case atStart => exact ⟨0, Nat.zero_le _, rfl, rfl, Lib.hid fun j hj => absurd hj (by omega), Below.refl _ _⟩
        case round =>
          obtain ⟨jj, hjj, rfl, rfl, HZ, hBx⟩ := hrel
          by_cases hlt2 : jj < m1
          · obtain ⟨g, rfl, _, Ay, ny, cy, xy, ⟨p1, p2, p3, p4⟩, t1, t2⟩ := (HRD.out.below hBx).row jj hlt2
            have eny : n = ny := by rw [← HL1.out jj hlt2]; exact t1.1.1
            subst eny
            obtain ⟨gx, rfl, lgx, z, q1, q2, q3, hz⟩ := t1.int kk hlt
            have HX := Lib.hid hBx
            have a11 : (wr.alloc (.cells #[.slice (some ⟨gx, 0, none⟩) n cy, .int .i64 xy.s, .bool xy.g, .slice xy.A xy.n xy.c] 60)).heap[wr.heap.size]? = some (.cells #[.slice (some ⟨gx, 0, none⟩) n cy, .int .i64 xy.s, .bool xy.g, .slice xy.A xy.n xy.c] 60 (0, 0)) := blk_at _ rfl
            have qq := cell3_below lgx q1 q2 q3 (bl_alloc (Below.refl _ _) (.cells #[.slice (some ⟨gx, 0, none⟩) n cy, .int .i64 xy.s, .bool xy.g, .slice xy.A xy.n xy.c] 60))
            replace hz := RV.al2 hz (.cells #[.slice (some ⟨gx, 0, none⟩) n cy, .int .i64 xy.s, .bool xy.g, .slice xy.A xy.n xy.c] 60)
            replace hBx := bl_alloc hBx (.cells #[.slice (some ⟨gx, 0, none⟩) n cy, .int .i64 xy.s, .bool xy.g, .slice xy.A xy.n xy.c] 60)
            have hk0 : (0 : Int) ≤ (kk : Int) := by omega
            have hkn : (kk : Int) < (n : Int) := by omega
            have hj0 : (0 : Int) ≤ (jj : Int) := by omega
            have hjn : (jj : Int) < (m1 : Int) := by omega
            clear q1 q2 q3
            obtain ⟨q1, q2, q3⟩ := qq
            obtain ⟨f1, f2, f3, f4, f5⟩ := q4c a11
            have HZ2 : Hid ((s.1.getD jj ([], 0)).1.getD kk 0 = 0 → ∀ j, j < jj + 1 → (s.1.getD j ([], 0)).1.getD kk 0 = 0) := Lib.hid fun e j hj => by
              rcases Nat.lt_or_ge j jj with h | h
              · exact HZ.out j h
              · have : j = jj := by omega
                rw [this]; exact e
            have HZ3 : Hid ((s.1.getD jj ([], 0)).1.getD kk 0 ≠ 0 → (∀ j, j < jj → (s.1.getD j ([], 0)).1.getD kk 0 = 0) ∧ (s.1.getD jj ([], 0)).1.getD kk 0 ≠ 0) := Lib.hid fun e => ⟨HZ.out, e⟩
            clear t1 t2
            go_wp2_with fail
            refine (rsign_int_calls z.s z.g z.A z.n z.c _ _ hz).mono ?_
            rintro e w2 ⟨rfl, hB2⟩
            have B2 := bl_then hBx hB2
            clear f1 f2 f3 f4 f5 q1 q2 q3 p1 p2 p3 p4 hB2 hBx hz a11
            by_cases hc0 : (s.1.getD jj ([], 0)).1.getD kk 0 = 0
            · have HZ4 := Lib.hid (HZ2.out hc0)
              have e0 : ((s.1.getD jj ([], 0)).1.getD kk 0).sign = 0 := by rw [hc0]; rfl
              rw [e0]
              clear hc0 e0
              go_wp2
              go_roundw
              case rel => exact ⟨jj + 1, hlt2, rfl, by go_num, HZ4, B2⟩
              case measure => simp [intOf]; omega
            · have HZ4 := Lib.hid (HZ3.out hc0)
              have e0 : (((s.1.getD jj ([], 0)).1.getD kk 0).sign != 0) = true := by
                have : ¬ ((s.1.getD jj ([], 0)).1.getD kk 0).sign = 0 := fun h => hc0 (Int.sign_eq_zero_iff_zero.1 h)
                simpa using this
              generalize ((s.1.getD jj ([], 0)).1.getD kk 0).sign = sg at *
              clear hc0
              go_wp2
              go_meet
              case rel => exact ⟨.inl ⟨jj, hlt2, rfl, HZ4⟩, B2⟩
          · have hj : m1 = jj := by omega
            subst hj
            go_wp2
            go_meet
            case rel => exact ⟨.inr ⟨rfl, HZ⟩, hBx⟩
      case rest =>
        obtain ⟨ht, hBc⟩ := hcut
        rcases ht with ⟨i, hi, rfl, HF⟩ | ⟨rfl, HF⟩
        rotate_left
        · have e1 := HSN.out HF.out
          have X1 : KW.Own wc w.heap.size (.slice Ar m1 cr) m1 (U (kk + 1)).1 := by rw [e1]; exact HOR.out.below KW.ok hBc
          have X2 : KW.Own wc w.heap.size vo m2 (U (kk + 1)).2 := by rw [e1]; exact HOO.out.below KW.ok hBc
          have X3 := bl_then HB0.out hBc
          clear e1
          go_wp2
          go_roundw
          case rel => exact ⟨kk + 1, m1, m2, hlt, by go_num, X1, X2, hd, X3⟩
          case measure => simp [intOf]; omega
        · have OR := HOR.out.below KW.ok hBc
          have OO := HOO.out.below KW.ok hBc
          have B0 := bl_then HB0.out hBc
          clear HSN HOR HOO HB0
          have hmi := HG1.out i hi
          have hli := HL1.out i hi
          have hzi := HIk.out.zer _ hmi
          have HPS := Lib.hid (pi_spec hli hlt hzi HF.out.2)
          have HLD := Lib.hid (pi_ld hli hlt hzi HF.out.2)
          have HSI := Lib.hid (HSk.out _ (List.mem_append_left s.2 hmi))
          have HSP := Lib.hid (pi_sz (n := n) (v := kk) HSI.out)
          have HU := HST.out i hi HF.out.1 HF.out.2
          have HU1 : Hid ((U (kk + 1)).1 = (s.1.take i ++ s.1.drop (i + 1)).map (clZ n kk (piZ n kk (s.1.getD i ([], 0))))) := Lib.hid (by rw [HU]; rfl)
          have HU2 : Hid ((U (kk + 1)).2 = s.2.map (clZ n kk (piZ n kk (s.1.getD i ([], 0)))) ++ [piZ n kk (s.1.getD i ([], 0))]) := Lib.hid (by rw [HU]; rfl)
          obtain ⟨g, rfl, lg, Ay, ny, cy, xy, ⟨p1, p2, p3, p4⟩, t1, t2⟩ := (HRD.out.below hBc).row i hi
          have eny : n = ny := by rw [← hli]; exact t1.1.1
          subst eny
          have hI0 : (0 : Int) ≤ (i : Int) := by omega
          have hIn : (i : Int) < (m1 : Int) := by omega
          have hIg : ¬ ((i : Int) < 0) := by omega
          have hIg2 : decide ((i : Int) < 0) = false := decide_eq_false hIg
          have HLI := Lib.hid hli
          clear hmi hzi HU HST HF HRD hBc hli
          generalize s.1.getD i ([], 0) = r at *
          go_wp2_with fail
          refine (r2primedk_calls Ay n cy xy r.1 r.2 _ t1 t2 (by omega) (kS kk) HSI.out.1 HSI.out.2 (by omega)).mono ?_
          rintro e w3 ⟨⟨A3, c3, x3, rfl, t3, t3'⟩, hB3⟩
          have u3 : RdT w3 A3 n (pmZ n r).1 := t3
          have u3' : x3.Is w3 (pmZ n r).2 := t3'
          have HPI : Hid (piZ n kk r = if (pmZ n r).1.getD kk 0 < 0 then niZ (pmZ n r) else pmZ n r) := Lib.hid rfl
          have HSP0 := Lib.hid (pm_sz (n := n) HSI.out)
          clear t1 t2 t3 t3' p1 p2 p3 p4 lg hIg hIg2
          generalize pmZ n r = p0 at *
          obtain ⟨gx, rfl, lgx, z, q1, q2, q3, hz⟩ := u3.int kk hlt
          generalize p0.1.getD kk 0 = pv at *
          replace OR := OR.below KW.ok hB3
          replace OO := OO.below KW.ok hB3
          replace B0 := bl_then B0 hB3
          have HLR := Lib.hid OR.lt
          have HLO := Lib.hid OO.lt
          have hgb : w.heap.size ≤ w3.heap.size := B0.size
          replace OR := OR.below KW.ok (bl_alloc (Below.refl _ _) (.cells #[.slice (some ⟨gx, 0, none⟩) n c3, .int .i64 x3.s, .bool x3.g, .slice x3.A x3.n x3.c] 60))
          replace OO := OO.below KW.ok (bl_alloc (Below.refl _ _) (.cells #[.slice (some ⟨gx, 0, none⟩) n c3, .int .i64 x3.s, .bool x3.g, .slice x3.A x3.n x3.c] 60))
          replace B0 := bl_alloc B0 (.cells #[.slice (some ⟨gx, 0, none⟩) n c3, .int .i64 x3.s, .bool x3.g, .slice x3.A x3.n x3.c] 60)
          have ap : (w3.alloc (.cells #[.slice (some ⟨gx, 0, none⟩) n c3, .int .i64 x3.s, .bool x3.g, .slice x3.A x3.n x3.c] 60)).heap[w3.heap.size]? = some (.cells #[.slice (some ⟨gx, 0, none⟩) n c3, .int .i64 x3.s, .bool x3.g, .slice x3.A x3.n x3.c] 60 (0, 0)) := blk_at _ rfl
          have qq := cell3_below lgx q1 q2 q3 (bl_alloc (Below.refl _ _) (.cells #[.slice (some ⟨gx, 0, none⟩) n c3, .int .i64 x3.s, .bool x3.g, .slice x3.A x3.n x3.c] 60))
          replace hz := RV.al2 hz (.cells #[.slice (some ⟨gx, 0, none⟩) n c3, .int .i64 x3.s, .bool x3.g, .slice x3.A x3.n x3.c] 60)
          replace u3 := u3.below (bl_alloc (Below.refl _ _) (.cells #[.slice (some ⟨gx, 0, none⟩) n c3, .int .i64 x3.s, .bool x3.g, .slice x3.A x3.n x3.c] 60))
          replace u3' := RV.al2 u3' (.cells #[.slice (some ⟨gx, 0, none⟩) n c3, .int .i64 x3.s, .bool x3.g, .slice x3.A x3.n x3.c] 60)
          have hk0 : (0 : Int) ≤ (kk : Int) := by omega
          have hkn : (kk : Int) < (n : Int) := by omega
          clear q1 q2 q3 hB3 lgx
          obtain ⟨q1, q2, q3⟩ := qq
          go_upto_region 15 with (fail)
          generalize w3.heap.size = gp at *
          generalize w3.alloc (.cells #[.slice (some ⟨gx, 0, none⟩) n c3, .int .i64 x3.s, .bool x3.g, .slice x3.A x3.n x3.c] 60) = W4 at *
          obtain ⟨f1, f2, f3, f4, f5⟩ := q4c ap
          go_wp2_with fail
          refine (rsign_int_calls z.s z.g z.A z.n z.c _ _ hz).mono ?_
          rintro e W5 ⟨rfl, hB5⟩
          replace OR := OR.below KW.ok hB5
          replace OO := OO.below KW.ok hB5
          replace B0 := bl_then B0 hB5
          replace ap := blk_below ap hB5
          replace u3 := u3.below hB5
          replace u3' := RV.below u3' hB5
          clear f1 f2 f3 f4 f5 q1 q2 q3 hz hB5
          go_upto_if 53 with (fail)
          have HGPO : Hid (∀ b, vo.ownBlock = some b → b ≠ gp) := Lib.hid fun b hb h2 => by have := HLO.out b hb; omega
          go_cut [] (fun wc => ∃ (A : Option Addr) (c : Nat) (x : JC), wc.heap[gp]? = some (.cells #[.slice A n c, .int .i64 x.s, .bool x.g, .slice x.A x.n x.c] 60 (0, 0)) ∧ RdT wc A n (piZ n kk r).1 ∧ x.Is wc (piZ n kk r).2 ∧ KW.Own wc w.heap.size (.slice (some ⟨g, 0, none⟩) m1 cr) m1 s.1 ∧ KW.Own wc w.heap.size vo m2 s.2 ∧ Below w.heap.size w wc)
          case first =>
            by_cases hc : pv < 0
            · have hs : decide ((pv).sign < 0) = true := decide_eq_true (by rw [Int.sign_eq_neg_one_of_neg hc]; decide)
              have hs2 : decide (pv < 0) = true := decide_eq_true hc
              have HPN : Hid (piZ n kk r = niZ p0) := Lib.hid (by rw [HPI.out, if_pos hc])
              clear hc HPI
              (first | rw [hs2] | rw [hs])
              clear hs hs2
              obtain ⟨f1, f2, f3, f4, f5⟩ := q4c ap
              go_wp2_with fail
              refine (r2minus_calls (some ⟨gx, 0, none⟩) n c3 x3 p0.1 p0.2 _ u3.1 u3' (by omega) (kS kk) HSP0.out.1 HSP0.out.2 (by omega) (by omega)).mono ?_
              rintro e W6 ⟨⟨A6, c6, x6, rfl, t6, t6'⟩, hB6⟩
              replace OR := OR.below KW.ok hB6
              replace OO := OO.below KW.ok hB6
              replace B0 := bl_then B0 hB6
              replace ap := blk_below ap hB6
              clear f1 f2 f3 f4 f5 u3 u3' hB6
              obtain ⟨f1, f2, f3, f4, f5, f6, f7, f8⟩ := q4c ap
              have K1 : ∀ t, 60 ≠ t → Kp t W6 (set4 W6 gp 0 ⟨A6, n, c6, x6⟩) := fun t ht => set4_kp ap t ht
              have X1 := blk_set4 ap (.slice A6 n c6) (.int .i64 x6.s) (.bool x6.g) (.slice x6.A x6.n x6.c)
              have X2 : RdT (set4 W6 gp 0 ⟨A6, n, c6, x6⟩) A6 n (piZ n kk r).1 := by rw [HPN.out]; exact t6.kp (K1 _ (by decide)) (K1 _ (by decide))
              have X3 : x6.Is (set4 W6 gp 0 ⟨A6, n, c6, x6⟩) (piZ n kk r).2 := by rw [HPN.out]; exact RV.kp t6' (K1 _ (by decide))
              have X4 := OR.far2 KW.ok (w' := set4 W6 gp 0 ⟨A6, n, c6, x6⟩) (fun b hb => set4_far (by have := HLR.out b hb; omega)) K1
              have X5 := OO.far2 KW.ok (w' := set4 W6 gp 0 ⟨A6, n, c6, x6⟩) (fun b hb => set4_far (by have := HLO.out b hb; omega)) K1
              have X6 := set4_bl (g := gp) (o := 0) (y := ⟨A6, n, c6, x6⟩) B0 hgb
              have HX1 := Lib.hid X1
              have HX2 := Lib.hid X2
              have HX3 := Lib.hid X3
              have HX4 := Lib.hid X4
              have HX5 := Lib.hid X5
              have HX6 := Lib.hid X6
              clear X1 X2 X3 X4 X5 X6 K1 t6 t6' OR OO B0
              go_wp2
              go_meet
              case rel => exact ⟨A6, c6, x6, HX1.out, HX2.out, HX3.out, HX4.out, HX5.out, HX6.out⟩
            · have hs : decide ((pv).sign < 0) = false := decide_eq_false fun h => hc (Int.neg_of_sign_eq_neg_one (by have := Int.sign_trichotomy (pv); omega))
              have hs2 : decide (pv < 0) = false := decide_eq_false hc
              have HPN : Hid (piZ n kk r = p0) := Lib.hid (by rw [HPI.out, if_neg hc])
              clear hc HPI
              (first | rw [hs2] | rw [hs])
              clear hs hs2
              go_wp2
              go_meet
              case rel => exact ⟨_, c3, x3, ap, by rw [HPN.out]; exact u3, by rw [HPN.out]; exact u3', OR, OO, B0⟩
          case rest =>
            clear OR OO B0 ap u3 u3' HPI HSP0
            obtain ⟨Ap, cp, xp, ap, up, up', OR, OO, B0⟩ := hcut
            generalize piZ n kk r = p at *
            have hgp : gp < wc.heap.size := blk_lt ap
            obtain ⟨_, cr', hvv, _, _, _, hnc, _⟩ := KW.at OR i hi
            have hcr : cr' = cr := by cases hvv; rfl
            rw [hcr] at hnc
            clear hvv hcr
            obtain ⟨Ax, hAx⟩ : ∃ A, A = if cr = i + 1 then some (⟨g, 0, none⟩ : Addr) else some ⟨g, (i + 1) * 4, none⟩ := ⟨_, rfl⟩
            have HAX := Lib.hid hAx
            clear hAx
            have hwr : IntKind.i64.wrap ((i : Int) + 1) = (i : Int) + 1 := by rw [IntKind.wrap_i64]; omega
            have hwt : ((i : Int) + 1).toNat = i + 1 := by omega
            go_upto_region 17 with (fail)
            refine wp_region_T (n := 10) (fun _ => True) (by kernel_rfl) ?_
            refine wpT_take (n := 10) (i := 1) (v := ?_) (by decide) (by kernel_rfl) rfl (by kernel_rfl) (by kernel_rfl) (by kernel_rfl) (fun _ _ _ h => h) (Or.inl ⟨by rfl, ?_⟩) trivial ?_
            rotate_left
            · intro w' hSw
              (try dsimp only at hSw)
              go_simp
              (try with_reducible rfl)
            try simp only [Act.put, List.setIfInBounds_toArray, List.set_cons_zero, List.set_cons_succ]
            refine wpT_take (n := 10) (i := 2) (v := ?_) (by decide) (by kernel_rfl) rfl (by kernel_rfl) (by kernel_rfl) (by kernel_rfl) (fun _ _ _ h => h) (Or.inl ⟨by rfl, ?_⟩) trivial ?_
            rotate_left
            · intro w' hSw
              (try dsimp only at hSw)
              go_simp
              (try with_reducible rfl)
            try simp only [Act.put, List.setIfInBounds_toArray, List.set_cons_zero, List.set_cons_succ]
            refine wpT_take (n := 10) (i := 5) (v := ?_) (by decide) (by kernel_rfl) rfl (by kernel_rfl) (by kernel_rfl) (by kernel_rfl) (fun _ _ _ h => h) (Or.inl ⟨by rfl, ?_⟩) trivial ?_
            rotate_left
            · intro w' hSw
              (try dsimp only at hSw)
              go_simp
              (try with_reducible rfl)
            try simp only [Act.put, List.setIfInBounds_toArray, List.set_cons_zero, List.set_cons_succ]
            refine wpT_take (n := 10) (i := 6) (v := ?_) (by decide) (by kernel_rfl) rfl (by kernel_rfl) (by kernel_rfl) (by kernel_rfl) (fun _ _ _ h => h) (Or.inl ⟨by rfl, ?_⟩) trivial ?_
            rotate_left
            · intro w' hSw
              (try dsimp only at hSw)
              go_simp
              (try with_reducible rfl)
            try simp only [Act.put, List.setIfInBounds_toArray, List.set_cons_zero, List.set_cons_succ]
            refine wpT_take (n := 10) (i := 3) (v := .slice (some ⟨g, 0, none⟩) i cr) (by decide) (by kernel_rfl) rfl (by kernel_rfl) (by kernel_rfl) (by kernel_rfl) (fun _ _ _ h => h) (Or.inl ⟨by rfl, ?_⟩) trivial ?_
            · intro w' hSw
              go_simp
              exact fun h => absurd h (by omega)
            try simp only [Act.put, List.setIfInBounds_toArray, List.set_cons_zero, List.set_cons_succ]
            refine wpT_take (n := 10) (i := 7) (v := ?_) (by decide) (by kernel_rfl) rfl (by kernel_rfl) (by kernel_rfl) (by kernel_rfl) (fun _ _ _ h => h) (Or.inl ⟨by rfl, ?_⟩) trivial ?_
            rotate_left
            · intro w' hSw
              (try dsimp only at hSw)
              go_simp
              (try with_reducible rfl)
            try simp only [Act.put, List.setIfInBounds_toArray, List.set_cons_zero, List.set_cons_succ]
            refine wpT_take (n := 10) (i := 8) (v := .slice Ax (m1 - (i + 1)) (cr - (i + 1))) (by decide) (by kernel_rfl) rfl (by kernel_rfl) (by kernel_rfl) (by kernel_rfl) (fun _ _ _ h => h) (Or.inl ⟨by rfl, ?_⟩) trivial ?_
            · intro w' hSw
              rw [HAX.out]
              go_simp
              all_goals exact fun h => absurd (h (by omega)) (by omega)
            try simp only [Act.put, List.setIfInBounds_toArray, List.set_cons_zero, List.set_cons_succ]
            refine wpT_one (n := 10) (i := 0) (by kernel_rfl) rfl (fun K9 hK9 => ?_)
            go_simp
            refine hK9.out _ _ (fun _ => trivial) (fun _ => ?_)
            clear hK9 K9
            try simp only [Act.put, List.setIfInBounds_toArray, List.set_cons_zero, List.set_cons_succ]
            have O3 : KW.Own (wc.drew.alloc (.cells #[] 60)) wc.heap.size (.slice (some ⟨wc.heap.size, 0, none⟩) 0 0) 0 [] := KW.fresh wc.drew wc.heap.size (Nat.le_refl _)
            have B1 : Below wc.heap.size wc (wc.drew.alloc (.cells #[] 60)) := bl_alloc (bl_drew (Below.refl _ _)) _
            have S1 := KW.src (OR.below KW.ok B1) 0 i (by omega) (a := ⟨g, 0, none⟩) (.inr (by rw [Nat.zero_mul]))
            obtain ⟨v3, W3, hrun3, O4, hgr3, _⟩ := appS (c := cr) O3 S1 (by omega) B1.size
            have B3 := below_of_grown B1 hgr3 B1.size O3.ge
            have HR3 := Lib.hid hrun3
            refine wpT_one (n := 10) (i := 4) (by kernel_rfl) rfl (fun K9 hK9 => ?_)
            refine oper_ap rfl (.tmp 56) (.tmp 59) 78 (by rfl) _ _ (by rfl) (by rfl) _ (by rfl) _ _ HR3.out ?_
            refine hK9.out _ _ (fun _ => trivial) (fun _ => ?_)
            clear hK9 K9
            try simp only [Act.put, List.setIfInBounds_toArray, List.set_cons_zero, List.set_cons_succ]
            have S2 := KW.src (OR.below KW.ok B3) (i + 1) (m1 - (i + 1)) (by omega) (a := if cr = i + 1 then ⟨g, 0, none⟩ else ⟨g, (i + 1) * 4, none⟩) (by
              by_cases hce : cr = i + 1
              · left; omega
              · right; rw [if_neg hce])
            have ea : (if cr = i + 1 then some (⟨g, 0, none⟩ : Addr) else some ⟨g, (i + 1) * 4, none⟩) = some (if cr = i + 1 then ⟨g, 0, none⟩ else ⟨g, (i + 1) * 4, none⟩) := by split <;> rfl
            rw [← ea, ← HAX.out] at S2
            obtain ⟨v4, W8, hrun4, O5, hgr4, _⟩ := appS (c := cr - (i + 1)) O4 S2 (by omega) B3.size
            have B8 := below_of_grown B3 hgr4 B3.size O4.ge
            have HR4 := Lib.hid hrun4
            refine wpT_one (n := 10) (i := 9) (by kernel_rfl) rfl (fun K9 hK9 => ?_)
            refine oper_ap rfl (.tmp 60) (.tmp 64) 78 (by rfl) _ _ (by rfl) (by rfl) _ (by rfl) _ _ HR4.out ?_
            refine hK9.out _ _ (fun _ => trivial) (fun _ => ?_)
            clear hK9 K9
            try simp only [Act.put, List.setIfInBounds_toArray, List.set_cons_zero, List.set_cons_succ]
            refine wpT_one (n := 10) (i := 10) (by kernel_rfl) rfl (fun K9 hK9 => ?_)
            go_simp
            refine hK9.out _ _ (fun h => absurd rfl h) (fun _ => ?_)
            clear hK9 K9
            try simp only [Act.put, List.setIfInBounds_toArray, List.set_cons_zero, List.set_cons_succ]
            refine wpT_done (by kernel_rfl) ?_ _
            have HLV := Lib.hid O5.ge
            have HLO2 := Lib.hid OO.lt
            rw [List.nil_append, List.drop_zero] at O5
            have e9 : (s.1.drop (i + 1)).take (m1 - (i + 1)) = s.1.drop (i + 1) := List.take_of_length_le (by rw [List.length_drop, HM1.out]; exact Nat.le_refl _)
            rw [e9] at O5
            clear e9 O3 O4 S1 S2 hgr3 hgr4 HR3 HR4 hrun3 hrun4 B1 B3 OR
            have HLL : Hid (∀ y ∈ s.1.take i ++ s.1.drop (i + 1), y.1.length = n ∧ (∀ j, Sz (kS kk) (y.1.getD j 0)) ∧ Sz (kS kk) y.2) := Lib.hid fun y hy => ⟨HIk.out.len y (st_rest hy), HSk.out y (List.mem_append_left _ (st_rest hy))⟩
            have HLL2 : Hid (∀ y ∈ s.2, y.1.length = n ∧ (∀ j, Sz (kS kk) (y.1.getD j 0)) ∧ Sz (kS kk) y.2) := Lib.hid fun y hy => ⟨HIk.out.row hy, HSk.out y (List.mem_append_right _ hy)⟩
            generalize s.1.take i ++ s.1.drop (i + 1) = RR at *
            obtain ⟨q, hq⟩ : ∃ q, q = 0 + i + (m1 - (i + 1)) := ⟨_, rfl⟩
            rw [← hq] at O5
            have hq5 : q + m2 + 1 ≤ 500 := by omega
            clear hq hnc
            have HLQ := Lib.hid O5.lenR
            obtain ⟨A4, c4, rfl, _⟩ := KW.rd O5 (by omega)
            have HAP := Lib.hid ap
            have HUP := Lib.hid up
            have HUP' := Lib.hid up'
            have HOO := Lib.hid OO
            have HB0 := Lib.hid B0
            clear ap up up' OO B0
            go_wp2_with fail
            go_loopw [68] (fun i wr => ∃ t : Nat, t ≤ q ∧ i = .int .i64 t ∧ KW.Own wr wc.heap.size (.slice A4 q c4) q (mixZ (clZ n kk p) t RR) ∧ Below wc.heap.size wc wr) (fun i _ => q - (intOf i).toNat)
            case atStart => exact ⟨0, Nat.zero_le _, rfl, O5, B8⟩
            case round =>
              clear O5 B8
              obtain ⟨t, ht, rfl, OW, hBx⟩ := hrel
              by_cases htq : t < q
              · obtain ⟨gl, cl, hvv, _, hbl, lgl, _, _, y0, pz4, tz, tz'⟩ := KW.at OW t htq
                obtain ⟨Az, nz, cz, xz⟩ := y0
                cases hvv
                rw [mix_at _ t RR (by rw [HLQ.out]; exact htq)] at tz tz'
                have hmy : RR.getD t ([], 0) ∈ RR := mem_getD (by rw [HLQ.out]; exact htq)
                have HSY := Lib.hid (HLL.out _ hmy).2
                have eny : n = nz := by rw [← (HLL.out _ hmy).1]; exact tz.1.1
                subst eny
                have HMS := Lib.hid (mix_set (clZ n kk p) t RR (by rw [HLQ.out]; exact htq))
                generalize RR.getD t ([], 0) = y at *
                have pz4 : Row4 wr gl (t * 4) Az n cz xz := pz4
                have tz : RdT wr Az n y.1 := tz
                have tz' : xz.Is wr y.2 := tz'
                have ap1 := blk_below HAP.out hBx
                have up1 := HUP.out.below hBx
                have up1' : xp.Is wr p.2 := RV.kp HUP'.out (Kp.below hBx)
                have ht0 : (0 : Int) ≤ (t : Int) := by omega
                have htn : (t : Int) < (q : Int) := by omega
                clear hmy
                go_upto_region 21 with (fail)
                have ap_0 := blk_drew ap1
                have hS0 : (wr.drew.cell? ⟨gl, t * 4, none⟩ = some (Value.slice Az n cz) ∧ wr.drew.cell? ⟨gl, t * 4 + 1, none⟩ = some (Value.int .i64 xz.s) ∧ wr.drew.cell? ⟨gl, t * 4 + 2, none⟩ = some (Value.bool xz.g) ∧ wr.drew.cell? ⟨gl, t * 4 + 3, none⟩ = some (Value.slice xz.A xz.n xz.c)) ∧ wr.drew.cell? ⟨gp, 0, none⟩ = some (Value.slice Ap n cp) ∧ wr.drew.cell? ⟨gp, 1, none⟩ = some (Value.int .i64 xp.s) ∧ wr.drew.cell? ⟨gp, 2, none⟩ = some (Value.bool xp.g) ∧ wr.drew.cell? ⟨gp, 3, none⟩ = some (Value.slice xp.A xp.n xp.c) := And.intro (Row4.below lgl pz4 (bl_drew (Below.refl _ _))) (qxr4 ap_0)
                refine wp_region_T (n := 9) (fun W => (W.cell? ⟨gl, t * 4, none⟩ = some (Value.slice Az n cz) ∧ W.cell? ⟨gl, t * 4 + 1, none⟩ = some (Value.int .i64 xz.s) ∧ W.cell? ⟨gl, t * 4 + 2, none⟩ = some (Value.bool xz.g) ∧ W.cell? ⟨gl, t * 4 + 3, none⟩ = some (Value.slice xz.A xz.n xz.c)) ∧ W.cell? ⟨gp, 0, none⟩ = some (Value.slice Ap n cp) ∧ W.cell? ⟨gp, 1, none⟩ = some (Value.int .i64 xp.s) ∧ W.cell? ⟨gp, 2, none⟩ = some (Value.bool xp.g) ∧ W.cell? ⟨gp, 3, none⟩ = some (Value.slice xp.A xp.n xp.c)) (by kernel_rfl) ?_
                refine wpT_take (n := 9) (i := 0) (v := ?_) (by decide) (by kernel_rfl) rfl (by kernel_rfl) (by kernel_rfl) (by kernel_rfl) (fun _ _ _ h => h) (Or.inl ⟨by rfl, ?_⟩) hS0 ?_
                rotate_left
                · intro w' hSw
                  (try dsimp only at hSw)
                  go_simp
                  (try with_reducible rfl)
                try simp only [Act.put, List.setIfInBounds_toArray, List.set_cons_zero, List.set_cons_succ]
                refine wpT_take (n := 9) (i := 1) (v := ?_) (by decide) (by kernel_rfl) rfl (by kernel_rfl) (by kernel_rfl) (by kernel_rfl) (fun _ _ _ h => h) (Or.inl ⟨by rfl, ?_⟩) hS0 ?_
                rotate_left
                · intro w' hSw
                  (try dsimp only at hSw)
                  go_simp
                  (try with_reducible rfl)
                try simp only [Act.put, List.setIfInBounds_toArray, List.set_cons_zero, List.set_cons_succ]
                refine wpT_take (n := 9) (i := 2) (v := ?_) (by decide) (by kernel_rfl) rfl (by kernel_rfl) (by kernel_rfl) (by kernel_rfl) (fun _ _ _ h => h) (Or.inl ⟨by rfl, ?_⟩) hS0 ?_
                rotate_left
                · intro w' hSw
                  (try dsimp only at hSw)
                  go_simp
                  (try with_reducible rfl)
                try simp only [Act.put, List.setIfInBounds_toArray, List.set_cons_zero, List.set_cons_succ]
                refine wpT_take (n := 9) (i := 3) (v := ?_) (by decide) (by kernel_rfl) rfl (by kernel_rfl) (by kernel_rfl) (by kernel_rfl) (fun _ _ _ h => h) (Or.inl ⟨by rfl, ?_⟩) hS0 ?_
                rotate_left
                · intro w' hSw
                  (try dsimp only at hSw)
                  go_simp
                  (try with_reducible rfl)
                try simp only [Act.put, List.setIfInBounds_toArray, List.set_cons_zero, List.set_cons_succ]
                refine wpT_take (n := 9) (i := 4) (v := ?_) (by decide) (by kernel_rfl) rfl (by kernel_rfl) (by kernel_rfl) (by kernel_rfl) (fun _ _ _ h => h) (Or.inl ⟨by rfl, ?_⟩) hS0 ?_
                rotate_left
                · intro w' hSw
                  (try dsimp only at hSw)
                  go_simp
                  (try with_reducible rfl)
                try simp only [Act.put, List.setIfInBounds_toArray, List.set_cons_zero, List.set_cons_succ]
                refine wpT_take (n := 9) (i := 5) (v := ?_) (by decide) (by kernel_rfl) rfl (by kernel_rfl) (by kernel_rfl) (by kernel_rfl) (fun _ _ _ h => h) (Or.inl ⟨by rfl, ?_⟩) hS0 ?_
                rotate_left
                · intro w' hSw
                  (try dsimp only at hSw)
                  go_simp
                  (try with_reducible rfl)
                try simp only [Act.put, List.setIfInBounds_toArray, List.set_cons_zero, List.set_cons_succ]
                refine wpT_take (n := 9) (i := 6) (v := ?_) (by decide) (by kernel_rfl) rfl (by kernel_rfl) (by kernel_rfl) (by kernel_rfl) (fun _ _ _ h => h) (Or.inl ⟨by rfl, ?_⟩) hS0 ?_
                rotate_left
                · intro w' hSw
                  (try dsimp only at hSw)
                  go_simp
                  (try with_reducible rfl)
                try simp only [Act.put, List.setIfInBounds_toArray, List.set_cons_zero, List.set_cons_succ]
                refine wpT_one (n := 9) (i := 7) (by kernel_rfl) rfl (fun K9 hK9 => ?_)
                go_simp
                refine (r2clear_calls Az n cz xz y.1 y.2 Ap cp xp p.1 p.2 _ (tz.below (bl_drew (Below.refl _ _))) (RV.kp tz' (Kp.below (bl_drew (Below.refl _ _)))) (up1.below (bl_drew (Below.refl _ _))) (RV.kp up1' (Kp.below (bl_drew (Below.refl _ _)))) (by omega) (kS kk) HSY.out.1 HSY.out.2 HSP.out.1 HSP.out.2 (by omega) kk HLD.out hlt HPS.out.2.2.1).mono ?_
                rintro e y1 ⟨⟨A9, c9, x9, rfl, t9, t9'⟩, hB1⟩
                have H1 : Below wr.heap.size wr y1 := bl_then (bl_drew (Below.refl _ _)) hB1
                have ap_1 := blk_below ap1 H1
                have hS1 : (y1.cell? ⟨gl, t * 4, none⟩ = some (Value.slice Az n cz) ∧ y1.cell? ⟨gl, t * 4 + 1, none⟩ = some (Value.int .i64 xz.s) ∧ y1.cell? ⟨gl, t * 4 + 2, none⟩ = some (Value.bool xz.g) ∧ y1.cell? ⟨gl, t * 4 + 3, none⟩ = some (Value.slice xz.A xz.n xz.c)) ∧ y1.cell? ⟨gp, 0, none⟩ = some (Value.slice Ap n cp) ∧ y1.cell? ⟨gp, 1, none⟩ = some (Value.int .i64 xp.s) ∧ y1.cell? ⟨gp, 2, none⟩ = some (Value.bool xp.g) ∧ y1.cell? ⟨gp, 3, none⟩ = some (Value.slice xp.A xp.n xp.c) := And.intro (Row4.below lgl pz4 H1) (qxr4 ap_1)
                obtain ⟨cs9, hcs9⟩ := KW.blk (OW.below KW.ok H1)
                have k1 := (blk_cell hcs9 (t * 4)).2
                have k2 := (blk_cell hcs9 (t * 4 + 1)).2
                have k3 := (blk_cell hcs9 (t * 4 + 2)).2
                have k4 := (blk_cell hcs9 (t * 4 + 3)).2
                have r1 := hS1.1.1
                have r2 := hS1.1.2.1
                have r3 := hS1.1.2.2.1
                have r4 := hS1.1.2.2.2
                refine hK9.out _ _ (fun _ => hS1) (fun _ => ?_)
                clear hK9 K9
                try simp only [Act.put, List.setIfInBounds_toArray, List.set_cons_zero, List.set_cons_succ]
                refine wpT_take (n := 9) (i := 8) (v := ?_) (by decide) (by kernel_rfl) rfl (by kernel_rfl) (by kernel_rfl) (by kernel_rfl) (fun _ _ _ h => h) (Or.inl ⟨by rfl, ?_⟩) hS1 ?_
                rotate_left
                · intro w' hSw
                  (try dsimp only at hSw)
                  go_simp
                  (try with_reducible rfl)
                try simp only [Act.put, List.setIfInBounds_toArray, List.set_cons_zero, List.set_cons_succ]
                refine wpT_one (n := 9) (i := 9) (by kernel_rfl) rfl (fun K9 hK9 => ?_)
                go_simp
                refine hK9.out _ _ (fun h => absurd rfl h) (fun _ => ?_)
                clear hK9 K9
                try simp only [Act.put, List.setIfInBounds_toArray, List.set_cons_zero, List.set_cons_succ]
                refine wpT_done (by kernel_rfl) ?_ _
                have tq : RdT y1 A9 n (clZ n kk p y).1 := t9
                have tq' : x9.Is y1 (clZ n kk p y).2 := t9'
                have Y1 := KW.set (OW.below KW.ok H1) t htq ⟨A9, n, c9, x9⟩ (clZ n kk p y) ⟨tq, tq'⟩
                rw [HMS.out] at Y1
                have HY1 := Lib.hid Y1
                have HY2 := Lib.hid (set4_bl (g := gl) (o := t * 4) (y := ⟨A9, n, c9, x9⟩) (bl_then hBx H1) hbl)
                clear Y1 tq tq' t9 t9' hS0 hS1 ap_0 ap_1 OW
                go_wp2
                go_roundw
                case rel => exact ⟨t + 1, htq, by go_num, HY1.out, HY2.out⟩
                case measure => simp [intOf]; omega
              · have e : q = t := by omega
                subst e
                rw [mix_all _ RR q HLQ.out, ← HU1.out] at OW
                have OO := HOO.out.below KW.ok hBx
                have ap := blk_below HAP.out hBx
                have up := HUP.out.below hBx
                have up' : xp.Is wr p.2 := RV.kp HUP'.out (Kp.below hBx)
                have B0 := bl_then HB0.out hBx
                have HDJ : Hid (∀ b, (Value.slice A4 q c4).ownBlock = some b → vo.ownBlock ≠ some b) := Lib.hid fun b hb h2 => by have h3 := OW.ge b hb; have h4 := HLO2.out b h2; omega
                have OV := OW.base (b' := w.heap.size) (by have := HB0.out.size; exact this)
                have HGO : Hid (∀ b, vo.ownBlock = some b → b ≠ gp) := Lib.hid fun b hb h2 => HGPO.out b hb h2
                clear OW hBx HAP HUP HUP' HOO HB0 HLL
                generalize wr = W9 at *
                obtain ⟨Ao, co, rfl, _⟩ := KW.rd OO (by omega)
                go_wp2_with fail
                go_loopw [83] (fun i wr => ∃ t : Nat, t ≤ m2 ∧ i = .int .i64 t ∧ KW.Own wr w.heap.size (.slice Ao m2 co) m2 (mixZ (clZ n kk p) t s.2) ∧ KW.Own wr w.heap.size (.slice A4 q c4) q (U (kk + 1)).1 ∧ wr.heap[gp]? = some (.cells #[.slice Ap n cp, .int .i64 xp.s, .bool xp.g, .slice xp.A xp.n xp.c] 60 (0, 0)) ∧ RdT wr Ap n p.1 ∧ xp.Is wr p.2 ∧ Below w.heap.size w wr) (fun i _ => m2 - (intOf i).toNat)
                case atStart => exact ⟨0, Nat.zero_le _, rfl, OO, OV, ap, up, up', B0⟩
                case round =>
                  clear OO OV ap up up' B0
                  obtain ⟨t, ht, rfl, OW, OV, ap1, up1, up1', B0⟩ := hrel
                  by_cases htq : t < m2
                  · obtain ⟨gl, cl, hvv, hob, hbl, lgl, _, _, y0, pz4, tz, tz'⟩ := KW.at OW t htq
                    obtain ⟨Az, nz, cz, xz⟩ := y0
                    cases hvv
                    have hglp := HGO.out gl hob
                    rw [mix_at _ t s.2 (by rw [HM2.out]; exact htq)] at tz tz'
                    have hmy : s.2.getD t ([], 0) ∈ s.2 := mem_getD (by rw [HM2.out]; exact htq)
                    have HSY := Lib.hid (HLL2.out _ hmy).2
                    have eny : n = nz := by rw [← (HLL2.out _ hmy).1]; exact tz.1.1
                    subst eny
                    have HMS := Lib.hid (mix_set (clZ n kk p) t s.2 (by rw [HM2.out]; exact htq))
                    generalize s.2.getD t ([], 0) = y at *
                    have pz4 : Row4 wr gl (t * 4) Az n cz xz := pz4
                    have tz : RdT wr Az n y.1 := tz
                    have tz' : xz.Is wr y.2 := tz'
                    have HDG : Hid (∀ b, (Value.slice A4 q c4).ownBlock = some b → b ≠ gl) := Lib.hid fun b hb h2 => HDJ.out b hb (by rw [h2]; exact hob)
                    have ht0 : (0 : Int) ≤ (t : Int) := by omega
                    have htn : (t : Int) < (m2 : Int) := by omega
                    clear hmy hob
                    go_upto_region 26 with (fail)
                    have ap_0 := blk_drew ap1
                    have hS0 : (wr.drew.cell? ⟨gl, t * 4, none⟩ = some (Value.slice Az n cz) ∧ wr.drew.cell? ⟨gl, t * 4 + 1, none⟩ = some (Value.int .i64 xz.s) ∧ wr.drew.cell? ⟨gl, t * 4 + 2, none⟩ = some (Value.bool xz.g) ∧ wr.drew.cell? ⟨gl, t * 4 + 3, none⟩ = some (Value.slice xz.A xz.n xz.c)) ∧ wr.drew.cell? ⟨gp, 0, none⟩ = some (Value.slice Ap n cp) ∧ wr.drew.cell? ⟨gp, 1, none⟩ = some (Value.int .i64 xp.s) ∧ wr.drew.cell? ⟨gp, 2, none⟩ = some (Value.bool xp.g) ∧ wr.drew.cell? ⟨gp, 3, none⟩ = some (Value.slice xp.A xp.n xp.c) := And.intro (Row4.below lgl pz4 (bl_drew (Below.refl _ _))) (qxr4 ap_0)
                    refine wp_region_T (n := 9) (fun W => (W.cell? ⟨gl, t * 4, none⟩ = some (Value.slice Az n cz) ∧ W.cell? ⟨gl, t * 4 + 1, none⟩ = some (Value.int .i64 xz.s) ∧ W.cell? ⟨gl, t * 4 + 2, none⟩ = some (Value.bool xz.g) ∧ W.cell? ⟨gl, t * 4 + 3, none⟩ = some (Value.slice xz.A xz.n xz.c)) ∧ W.cell? ⟨gp, 0, none⟩ = some (Value.slice Ap n cp) ∧ W.cell? ⟨gp, 1, none⟩ = some (Value.int .i64 xp.s) ∧ W.cell? ⟨gp, 2, none⟩ = some (Value.bool xp.g) ∧ W.cell? ⟨gp, 3, none⟩ = some (Value.slice xp.A xp.n xp.c)) (by kernel_rfl) ?_
                    refine wpT_take (n := 9) (i := 0) (v := ?_) (by decide) (by kernel_rfl) rfl (by kernel_rfl) (by kernel_rfl) (by kernel_rfl) (fun _ _ _ h => h) (Or.inl ⟨by rfl, ?_⟩) hS0 ?_
                    rotate_left
                    · intro w' hSw
                      (try dsimp only at hSw)
                      go_simp
                      (try with_reducible rfl)
                    try simp only [Act.put, List.setIfInBounds_toArray, List.set_cons_zero, List.set_cons_succ]
                    refine wpT_take (n := 9) (i := 1) (v := ?_) (by decide) (by kernel_rfl) rfl (by kernel_rfl) (by kernel_rfl) (by kernel_rfl) (fun _ _ _ h => h) (Or.inl ⟨by rfl, ?_⟩) hS0 ?_
                    rotate_left
                    · intro w' hSw
                      (try dsimp only at hSw)
                      go_simp
                      (try with_reducible rfl)
                    try simp only [Act.put, List.setIfInBounds_toArray, List.set_cons_zero, List.set_cons_succ]
                    refine wpT_take (n := 9) (i := 2) (v := ?_) (by decide) (by kernel_rfl) rfl (by kernel_rfl) (by kernel_rfl) (by kernel_rfl) (fun _ _ _ h => h) (Or.inl ⟨by rfl, ?_⟩) hS0 ?_
                    rotate_left
                    · intro w' hSw
                      (try dsimp only at hSw)
                      go_simp
                      (try with_reducible rfl)
                    try simp only [Act.put, List.setIfInBounds_toArray, List.set_cons_zero, List.set_cons_succ]
                    refine wpT_take (n := 9) (i := 3) (v := ?_) (by decide) (by kernel_rfl) rfl (by kernel_rfl) (by kernel_rfl) (by kernel_rfl) (fun _ _ _ h => h) (Or.inl ⟨by rfl, ?_⟩) hS0 ?_
                    rotate_left
                    · intro w' hSw
                      (try dsimp only at hSw)
                      go_simp
                      (try with_reducible rfl)
                    try simp only [Act.put, List.setIfInBounds_toArray, List.set_cons_zero, List.set_cons_succ]
                    refine wpT_take (n := 9) (i := 4) (v := ?_) (by decide) (by kernel_rfl) rfl (by kernel_rfl) (by kernel_rfl) (by kernel_rfl) (fun _ _ _ h => h) (Or.inl ⟨by rfl, ?_⟩) hS0 ?_
                    rotate_left
                    · intro w' hSw
                      (try dsimp only at hSw)
                      go_simp
                      (try with_reducible rfl)
                    try simp only [Act.put, List.setIfInBounds_toArray, List.set_cons_zero, List.set_cons_succ]
                    refine wpT_take (n := 9) (i := 5) (v := ?_) (by decide) (by kernel_rfl) rfl (by kernel_rfl) (by kernel_rfl) (by kernel_rfl) (fun _ _ _ h => h) (Or.inl ⟨by rfl, ?_⟩) hS0 ?_
                    rotate_left
                    · intro w' hSw
                      (try dsimp only at hSw)
                      go_simp
                      (try with_reducible rfl)
                    try simp only [Act.put, List.setIfInBounds_toArray, List.set_cons_zero, List.set_cons_succ]
                    refine wpT_take (n := 9) (i := 6) (v := ?_) (by decide) (by kernel_rfl) rfl (by kernel_rfl) (by kernel_rfl) (by kernel_rfl) (fun _ _ _ h => h) (Or.inl ⟨by rfl, ?_⟩) hS0 ?_
                    rotate_left
                    · intro w' hSw
                      (try dsimp only at hSw)
                      go_simp
                      (try with_reducible rfl)
                    try simp only [Act.put, List.setIfInBounds_toArray, List.set_cons_zero, List.set_cons_succ]
                    refine wpT_one (n := 9) (i := 7) (by kernel_rfl) rfl (fun K9 hK9 => ?_)
                    go_simp
                    refine (r2clear_calls Az n cz xz y.1 y.2 Ap cp xp p.1 p.2 _ (tz.below (bl_drew (Below.refl _ _))) (RV.kp tz' (Kp.below (bl_drew (Below.refl _ _)))) (up1.below (bl_drew (Below.refl _ _))) (RV.kp up1' (Kp.below (bl_drew (Below.refl _ _)))) (by omega) (kS kk) HSY.out.1 HSY.out.2 HSP.out.1 HSP.out.2 (by omega) kk HLD.out hlt HPS.out.2.2.1).mono ?_
                    rintro e y1 ⟨⟨A9, c9, x9, rfl, t9, t9'⟩, hB1⟩
                    have H1 : Below wr.heap.size wr y1 := bl_then (bl_drew (Below.refl _ _)) hB1
                    have ap_1 := blk_below ap1 H1
                    have hS1 : (y1.cell? ⟨gl, t * 4, none⟩ = some (Value.slice Az n cz) ∧ y1.cell? ⟨gl, t * 4 + 1, none⟩ = some (Value.int .i64 xz.s) ∧ y1.cell? ⟨gl, t * 4 + 2, none⟩ = some (Value.bool xz.g) ∧ y1.cell? ⟨gl, t * 4 + 3, none⟩ = some (Value.slice xz.A xz.n xz.c)) ∧ y1.cell? ⟨gp, 0, none⟩ = some (Value.slice Ap n cp) ∧ y1.cell? ⟨gp, 1, none⟩ = some (Value.int .i64 xp.s) ∧ y1.cell? ⟨gp, 2, none⟩ = some (Value.bool xp.g) ∧ y1.cell? ⟨gp, 3, none⟩ = some (Value.slice xp.A xp.n xp.c) := And.intro (Row4.below lgl pz4 H1) (qxr4 ap_1)
                    obtain ⟨cs9, hcs9⟩ := KW.blk (OW.below KW.ok H1)
                    have k1 := (blk_cell hcs9 (t * 4)).2
                    have k2 := (blk_cell hcs9 (t * 4 + 1)).2
                    have k3 := (blk_cell hcs9 (t * 4 + 2)).2
                    have k4 := (blk_cell hcs9 (t * 4 + 3)).2
                    have r1 := hS1.1.1
                    have r2 := hS1.1.2.1
                    have r3 := hS1.1.2.2.1
                    have r4 := hS1.1.2.2.2
                    refine hK9.out _ _ (fun _ => hS1) (fun _ => ?_)
                    clear hK9 K9
                    try simp only [Act.put, List.setIfInBounds_toArray, List.set_cons_zero, List.set_cons_succ]
                    refine wpT_take (n := 9) (i := 8) (v := ?_) (by decide) (by kernel_rfl) rfl (by kernel_rfl) (by kernel_rfl) (by kernel_rfl) (fun _ _ _ h => h) (Or.inl ⟨by rfl, ?_⟩) hS1 ?_
                    rotate_left
                    · intro w' hSw
                      (try dsimp only at hSw)
                      go_simp
                      (try with_reducible rfl)
                    try simp only [Act.put, List.setIfInBounds_toArray, List.set_cons_zero, List.set_cons_succ]
                    refine wpT_one (n := 9) (i := 9) (by kernel_rfl) rfl (fun K9 hK9 => ?_)
                    go_simp
                    refine hK9.out _ _ (fun h => absurd rfl h) (fun _ => ?_)
                    clear hK9 K9
                    try simp only [Act.put, List.setIfInBounds_toArray, List.set_cons_zero, List.set_cons_succ]
                    refine wpT_done (by kernel_rfl) ?_ _
                    have tq : RdT y1 A9 n (clZ n kk p y).1 := t9
                    have tq' : x9.Is y1 (clZ n kk p y).2 := t9'
                    have Y1 := KW.set (OW.below KW.ok H1) t htq ⟨A9, n, c9, x9⟩ (clZ n kk p y) ⟨tq, tq'⟩
                    rw [HMS.out] at Y1
                    have HY1 := Lib.hid Y1
                    have K1 : ∀ t2, 60 ≠ t2 → Kp t2 y1 (set4 y1 gl (t * 4) ⟨A9, n, c9, x9⟩) := fun t2 ht2 => set4_kp hcs9 t2 ht2
                    have HY2 := Lib.hid ((OV.below KW.ok H1).far2 KW.ok (w' := set4 y1 gl (t * 4) ⟨A9, n, c9, x9⟩) (fun b hb => set4_far (HDG.out b hb)) K1)
                    have HY3 : Hid ((set4 y1 gl (t * 4) ⟨A9, n, c9, x9⟩).heap[gp]? = some (.cells #[.slice Ap n cp, .int .i64 xp.s, .bool xp.g, .slice xp.A xp.n xp.c] 60 (0, 0))) := Lib.hid ((set4_far fun e => hglp e.symm).trans ap_1)
                    have HY4 := Lib.hid ((up1.below H1).kp (K1 _ (by decide)) (K1 _ (by decide)))
                    have HY5 : Hid (xp.Is (set4 y1 gl (t * 4) ⟨A9, n, c9, x9⟩) p.2) := Lib.hid (RV.kp (RV.kp up1' (Kp.below H1)) (K1 _ (by decide)))
                    have HY6 := Lib.hid (set4_bl (g := gl) (o := t * 4) (y := ⟨A9, n, c9, x9⟩) (bl_then B0 H1) hbl)
                    clear Y1 K1 tq tq' t9 t9' hS0 hS1 ap_0 ap_1 OW OV up1 up1' B0
                    go_wp2
                    go_roundw
                    case rel => exact ⟨t + 1, htq, by go_num, HY1.out, HY2.out, HY3.out, HY4.out, HY5.out, HY6.out⟩
                    case measure => simp [intOf]; omega
                  · have e : m2 = t := by omega
                    subst e
                    rw [mix_all _ s.2 m2 HM2.out] at OW
                    have OW2 := OW.below KW.ok (bl_alloc (Below.refl _ _) (.cells #[.slice Ap n cp, .int .i64 xp.s, .bool xp.g, .slice xp.A xp.n xp.c] 60))
                    have OV2 := OV.below KW.ok (bl_alloc (Below.refl _ _) (.cells #[.slice Ap n cp, .int .i64 xp.s, .bool xp.g, .slice xp.A xp.n xp.c] 60))
                    have B1 := bl_alloc B0 (.cells #[.slice Ap n cp, .int .i64 xp.s, .bool xp.g, .slice xp.A xp.n xp.c] 60)
                    have S1 := src_one (y := ⟨Ap, n, cp, xp⟩) (r := p) (blk_at (W := wr) (.cells #[.slice Ap n cp, .int .i64 xp.s, .bool xp.g, .slice xp.A xp.n xp.c] 60) rfl) ⟨up1.below (bl_alloc (Below.refl _ _) _), RV.al2 up1' _⟩
                    obtain ⟨v7, W7, hrun, O7, hgr, hpl⟩ := appS (c := 1) OW2 S1 (by omega) B1.size
                    have HR := Lib.hid hrun
                    rw [← HU2.out] at O7
                    have V2 := below_of_grown B1 hgr B1.size OW2.ge
                    have hlv := OV.lt
                    have O8 := OV2.far2 KW.ok (w' := W7) (fun b hb => hgr.block b (OV2.lt b hb) (fun e => HDJ.out b hb e.symm)) (fun t ht => OW2.kpg hgr t ht)
                    have HD8 : Hid (∀ b, (Value.slice A4 q c4).ownBlock = some b → v7.ownBlock ≠ some b) := Lib.hid fun b hb h2 => by
                      rcases hpl with h3 | h3
                      · exact HDJ.out b hb (h3.symm.trans h2)
                      · have h4 := hlv b hb
                        rw [h3] at h2
                        have h5 := Option.some.inj h2
                        simp at h5
                        omega
                    have HO7 := Lib.hid O7
                    have HO8 := Lib.hid O8
                    have HV2 := Lib.hid V2
                    have f1 := (q4c ap1).1
                    have f2 := (q4c ap1).2.1
                    have f3 := (q4c ap1).2.2.1
                    have f4 := (q4c ap1).2.2.2.1
                    clear hrun O7 O8 V2 hgr hpl OW OW2 OV OV2 B0 B1 S1 hlv up1 up1'
                    go_wp2_with (at_builtin; refine wpList_ap rfl (.tmp 96) (.tmp 98) 78 (by rfl) _ _ (by rfl) (by rfl) _ (by rfl) _ _ HR.out ?_)
                    go_roundw
                    case rel => exact ⟨kk + 1, q, m2 + 1, hlt, by go_num, HO8.out, HO7.out, HD8, HV2.out⟩
                    case measure => simp [intOf]; omega
    · have e : n = kk := by omega
      subst e
      have HM1 := Lib.hid hm1
      have HRD := Lib.hid hrd
      obtain ⟨Ao, co, rfl, hro⟩ := KW.rd OO (by omega)
      have HRO := Lib.hid hro
      have HB0 := Lib.hid B0
      clear hm1 hm2 hrd OR OO hro B0 hd
      go_wp2_with fail
      go_loopw [103] (fun i wr => ∃ t : Nat, t ≤ m1 ∧ i = .int .i64 t ∧ Hid (∀ j, j < t → ((U n).1.getD j ([], 0)).2 = 0) ∧ Below W0.heap.size W0 wr) (fun i _ => m1 - (intOf i).toNat)
      case atStart => exact ⟨0, Nat.zero_le _, rfl, Lib.hid fun j hj => absurd hj (by omega), Below.refl _ _⟩
      case round =>
        obtain ⟨t, ht, rfl, HZ, hBx⟩ := hrel
        by_cases htq : t < m1
        · obtain ⟨g, rfl, _, Ay, ny, cy, xy, ⟨p1, p2, p3, p4⟩, t1, t2⟩ := (HRD.out.below hBx).row t htq
          have HN1 := Lib.hid (HNO.out t (by rw [HM1.out]; exact htq))
          have HZ2 : Hid (((U n).1.getD t ([], 0)).2 = 0 → ∀ j, j < t + 1 → ((U n).1.getD j ([], 0)).2 = 0) := Lib.hid fun e j hj => by
            rcases Nat.lt_or_ge j t with h | h
            · exact HZ.out j h
            · have : j = t := by omega
              rw [this]; exact e
          generalize ((U n).1.getD t ([], 0)).2 = z at *
          have a11 : (wr.alloc (.cells #[.slice Ay ny cy, .int .i64 xy.s, .bool xy.g, .slice xy.A xy.n xy.c] 60)).heap[wr.heap.size]? = some (.cells #[.slice Ay ny cy, .int .i64 xy.s, .bool xy.g, .slice xy.A xy.n xy.c] 60 (0, 0)) := blk_at _ rfl
          have hz := RV.al2 t2 (.cells #[.slice Ay ny cy, .int .i64 xy.s, .bool xy.g, .slice xy.A xy.n xy.c] 60)
          replace hBx := bl_alloc hBx (.cells #[.slice Ay ny cy, .int .i64 xy.s, .bool xy.g, .slice xy.A xy.n xy.c] 60)
          have ht0 : (0 : Int) ≤ (t : Int) := by omega
          have htn : (t : Int) < (m1 : Int) := by omega
          obtain ⟨f1, f2, f3, f4, f5⟩ := q4c a11
          clear t1 t2
          go_wp2_with fail
          refine (rsign_int_calls xy.s xy.g xy.A xy.n xy.c z _ hz).mono ?_
          rintro e w2 ⟨rfl, hB2⟩
          have B2 := bl_then hBx hB2
          clear f1 f2 f3 f4 f5 p1 p2 p3 p4 hB2 hBx hz a11
          by_cases hc0 : z = 0
          · have HZ4 := Lib.hid (HZ2.out hc0)
            have e0 : z.sign = 0 := by rw [hc0]; rfl
            rw [e0]
            clear hc0 e0
            go_wp2
            go_roundw
            case rel => exact ⟨t + 1, htq, by go_num, HZ4, B2⟩
            case measure => simp [intOf]; omega
          · have hT := HN1.out hc0
            subst hT
            have e0 : (z.sign != 0) = true := by
              have : ¬ z.sign = 0 := fun h => hc0 (Int.sign_eq_zero_iff_zero.1 h)
              simpa using this
            generalize z.sign = sg at *
            clear hc0
            go_wp2
            go_ret2
            exact ⟨⟨none, 0, 0, rfl, rfl, by omega, fun h => absurd h (by omega)⟩, bl_then HB0.out B2⟩
        · have e : m1 = t := by omega
          subst e
          have hT := HY.out (by rw [HM1.out]; exact HZ.out)
          subst hT
          go_wp2
          go_ret2
          exact ⟨⟨Ao, m2, ⟨co, rfl⟩, HRO.out.below hBx⟩, bl_then HB0.out hBx⟩
end Go.Proofs.YtloplmmnmehkmaaGreat

namespace Go.Proofs.YtloplmmnmehkmaaGreat
open Go.RowKit

theorem okfs_len {n : Int} {F : List Fm} (h : OkFs n F) : ∀ f ∈ F, f.1.length = n.toNat := fun f hf => by
  have h1 := h.2.2 f hf
  have h2 := h1.2.1
  omega
theorem okfs_sz {n : Int} {F : List Fm} (h : OkFs n F) : ∀ f ∈ F, (∀ j, Sz 100 (f.1.getD j 0)) ∧ Sz 100 f.2 := fun f hf => ⟨okf_sz (h.2.2 f hf), mid_sz (h.2.2 f hf).2.2.1⟩

end Go.Proofs.YtloplmmnmehkmaaGreat

namespace Go.Proofs.YtloplmmnmehkmaaGreat
open Go.RowKit

/-- A form with the constant 0. -/
def bareZ (f : Fm) : Fm := (f.1, 0)
theorem RV.nought (w : World) : RV w 0 false none 0 0 0 := .inl ⟨rfl, rfl, rfl, rfl, rfl, by omega, by omega⟩
def rkF (n : Int) (F : List Fm) : Int := if OkFs n F then (((soZ n.toNat (F.map bareZ)).getD []).length : Int) else 0
def rkE (n : Int) (F : List Fm) : Int := if OkFs n F then 0 else 1
set_option maxHeartbeats 40000000
set_option maxRecDepth 100000
theorem r2bare_calls (A : Option Addr) (m c : Nat) (F : List Fm) (w : World) (h : RdWJ w A m F) (hm : m ≤ 500) :
    Calls Tryz.prog 56 #[.slice A m c] w fun e w' => (∃ A' c', e = .returned (.slice A' m c') ∧ RdWJ w' A' m (F.map bareZ)) ∧ Below w.heap.size w w' := by
  have L := Lib.hid h.1
  go_enter Tryz.func56, Tryz.ntmps56
  have O0 := Kind.Own.nil (K := KW) w w.heap.size
  have B0 := Below.refl w.heap.size w
  go_wp2_with fail
  go_loopw [3, 8] (fun v i wr => ∃ kk : Nat, kk ≤ m ∧ i = .int .i64 kk ∧ KW.Own wr w.heap.size v kk ((F.take kk).map bareZ) ∧ Below w.heap.size w wr) (fun _ i _ => m - (intOf i).toNat)
  case atStart => exact ⟨0, Nat.zero_le _, rfl, O0, B0⟩
  case round =>
    clear O0 B0
    obtain ⟨kk, hkk, rfl, OW, B0⟩ := hrel
    by_cases hlt : kk < m
    · obtain ⟨g, rfl, _, Ay, ny, cy, xy, ⟨p1, p2, p3, p4⟩, t1, t2⟩ := (h.below B0).row kk hlt
      have E := Lib.hid (map_take_succ bareZ F ([], 0) kk (by rw [L.out]; exact hlt))
      generalize F.getD kk ([], 0) = f1 at *
      have a7 : (wr.alloc (.cells #[.slice Ay ny cy, .int .i64 xy.s, .bool xy.g, .slice xy.A xy.n xy.c] 60)).heap[wr.heap.size]? = some (.cells #[.slice Ay ny cy, .int .i64 xy.s, .bool xy.g, .slice xy.A xy.n xy.c] 60 (0, 0)) := blk_at _ rfl
      replace OW := OW.below KW.ok (bl_alloc (Below.refl _ _) (.cells #[.slice Ay ny cy, .int .i64 xy.s, .bool xy.g, .slice xy.A xy.n xy.c] 60))
      replace t1 := t1.below (bl_alloc (Below.refl _ _) (.cells #[.slice Ay ny cy, .int .i64 xy.s, .bool xy.g, .slice xy.A xy.n xy.c] 60))
      replace B0 := bl_alloc B0 (.cells #[.slice Ay ny cy, .int .i64 xy.s, .bool xy.g, .slice xy.A xy.n xy.c] 60)
      obtain ⟨f1', f2, f3, f4, f5⟩ := q4c a7
      go_upto_region 5 with (fail)
      clear p1 p2 p3 p4 t2 a7
      generalize wr.heap.size = g9 at *
      generalize wr.alloc (.cells #[.slice Ay ny cy, .int .i64 xy.s, .bool xy.g, .slice xy.A xy.n xy.c] 60) = W2 at *
      have OW2 := OW.below KW.ok (bl_alloc (Below.refl _ _) (.cells #[.slice Ay ny cy, .int .i64 0, .bool false, .slice none 0 0] 60))
      have B1 := bl_alloc B0 (.cells #[.slice Ay ny cy, .int .i64 0, .bool false, .slice none 0 0] 60)
      have t3 : KW.Is (W2.alloc (.cells #[.slice Ay ny cy, .int .i64 0, .bool false, .slice none 0 0] 60)) ⟨Ay, ny, cy, ⟨0, false, none, 0, 0⟩⟩ (bareZ f1) := ⟨t1.below (bl_alloc (Below.refl _ _) _), RV.nought _⟩
      obtain ⟨v', W', hrun, O2, hgr⟩ := appg1 (c := 1) (g := W2.heap.size) KW.ok 78 _ 64 info_rrow Tryz.underlying78 rfl (by omega) OW2 ⟨Ay, ny, cy, ⟨0, false, none, 0, 0⟩⟩ (bareZ f1) _ (blk_at _ rfl) rfl t3 (by omega) B1.size
      rw [← E.out] at O2
      have HR := Lib.hid hrun
      have HO := Lib.hid O2
      have V2 : Hid (Below w.heap.size w W') := Lib.hid (below_of_grown B1 hgr B1.size OW2.ge)
      clear hrun O2 hgr OW OW2 B0 B1 t1 t3
      go_wp2_with (at_builtin; refine wpList_ap rfl (.tmp 12) (.tmp 16) 78 (by rfl) _ _ (by rfl) (by rfl) _ (by rfl) _ _ HR.out ?_)
      go_roundw
      case rel => exact ⟨kk + 1, hlt, by go_num, HO.out, V2.out⟩
      case measure => simp [intOf]; omega
    · have hkn : m = kk := by omega
      subst hkn
      obtain ⟨A', c', rfl, hrd⟩ := KW.rd OW (by omega)
      rw [List.take_of_length_le (by rw [L.out]; exact Nat.le_refl _)] at hrd
      have HRD := Lib.hid hrd
      clear OW hrd
      go_wp2
      go_ret
      exact ⟨⟨A', c', rfl, HRD.out⟩, B0⟩
theorem bare_len {n : Nat} {F : List Fm} (h : ∀ f ∈ F, f.1.length = n) : ∀ f ∈ F.map bareZ, f.1.length = n := fun f hf => by
  obtain ⟨y, hy, rfl⟩ := List.mem_map.1 hf
  exact h y hy
theorem bare_sz {F : List Fm} (h : ∀ f ∈ F, (∀ j, Sz 100 (f.1.getD j 0)) ∧ Sz 100 f.2) : ∀ f ∈ F.map bareZ, (∀ j, Sz 100 (f.1.getD j 0)) ∧ Sz 100 f.2 := fun f hf => by
  obtain ⟨y, hy, rfl⟩ := List.mem_map.1 hf
  exact ⟨(h y hy).1, Nat.two_pow_pos 100⟩
theorem r2rank_calls (n : Int) (A : Option Addr) (m c : Nat) (F : List Fm) (w : World) (h : RdF w A m F) (hi : ∀ f ∈ F, I64F f) (hm : m ≤ 500) :
    Calls Tryz.prog 16 #[.int .i64 n, .slice A m c] w fun e w' => e = .returned (.tuple #[.int .i64 (rkF n F), .int .i64 (rkE n F)]) ∧ Below w.heap.size w w' := by
  have HI := Lib.hid hi
  have NO : ¬ OkFs n F → rkF n F = 0 ∧ rkE n F = 1 := fun hh => ⟨if_neg hh, if_neg hh⟩
  have YES : OkFs n F → rkF n F = (((soZ n.toNat (F.map bareZ)).getD []).length : Int) ∧ rkE n F = 0 := fun h1 => ⟨if_pos h1, if_pos h1⟩
  generalize rkF n F = sB at *
  generalize rkE n F = sE at *
  clear hi
  go_enter Tryz.func16, Tryz.ntmps16
  go_wp2_with fail
  refine (r2vforms_calls n A m c F _ h).mono ?_
  rintro e w1 ⟨he, B0⟩
  by_cases hok : OkFs n F
  · rw [decide_eq_true hok] at he
    subst he
    obtain ⟨n, rfl⟩ : ∃ nn : Nat, n = nn := ⟨n.toNat, by have := hok.1.1; omega⟩
    obtain ⟨hy1, rfl⟩ := YES hok
    rw [Int.toNat_natCast] at hy1
    have HY := Lib.hid hy1
    have hn8 : n ≤ 8 := by have := hok.1.2; omega
    have LF : Hid (∀ f ∈ F, f.1.length = n) := Lib.hid (okfs_len hok)
    have SF := Lib.hid (okfs_sz hok)
    clear YES NO hok hy1
    go_wp2_with fail
    refine (r2all_calls A m c F _ (h.below B0) (fun f hf => ⟨HI.out f hf, by have := LF.out f hf; omega⟩) hm).mono ?_
    rintro e w3 ⟨⟨A2, c2, rfl, hr2⟩, hB3⟩
    replace B0 := bl_then B0 hB3
    clear hB3
    go_wp2_with fail
    refine (r2bare_calls A2 m c2 F _ hr2 hm).mono ?_
    rintro e w4 ⟨⟨A3, c3, rfl, hr3⟩, hB4⟩
    replace B0 := bl_then B0 hB4
    clear hB4 hr2
    go_wp2_with fail
    refine (r2solved_calls n A3 m c3 (F.map bareZ) _ hr3 (bare_len LF.out) (bare_sz SF.out) hn8 hm).mono ?_
    rintro e w5 ⟨⟨A4, m4, c4, he, hr4⟩, hB5⟩
    replace B0 := bl_then B0 hB5
    have hlen := hr4.1
    have hm4 := hr4.2.1
    clear hB5 hr3 hr4
    generalize (soZ n (F.map bareZ)).isSome = d1 at *
    have hsB : sB = (m4 : Int) := by rw [HY.out, hlen]
    subst hsB he
    clear HY hlen
    go_wp2
    go_ret2
    exact ⟨rfl, B0⟩
  · rw [decide_eq_false hok] at he
    subst he
    obtain ⟨rfl, rfl⟩ := NO hok
    clear YES NO hok
    go_wp2
    go_ret2
    exact ⟨rfl, B0⟩
end Go.Proofs.YtloplmmnmehkmaaGreat
