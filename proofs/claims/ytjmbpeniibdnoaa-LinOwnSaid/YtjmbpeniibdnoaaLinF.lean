/- Rows of rationals: what package lin computes, in plain Lean. -/
import Derived.Test.YtjmbpeniibdnoaaLinEch
set_option linter.unusedVariables false
set_option linter.unusedSimpArgs false
namespace Go.Proofs.Ytjmbpeniibdnoaa

/-- A row: its coefficients, its constant. -/
abbrev Rw := List Rat × Rat
def rv (r : Rw) : Vc := fun k => (r.1 ++ [r.2]).getD k 0
def tms (r : Rw) (k : Rat) : Rw := (r.1.map (· * k), r.2 * k)
def pls (r q : Rw) : Rw := (List.zipWith (· + ·) r.1 q.1, r.2 + q.2)
/-- The leading variable. -/
def ldF : List Rat → Nat
  | [] => 0
  | x :: l => if x = 0 then ldF l + 1 else 0
def redF : List Rw → Rw → Rw
  | [], r => r
  | q :: R, r => redF R (if r.1.getD (ldF q.1) 0 = 0 then r else pls r (tms q (-(r.1.getD (ldF q.1) 0 / q.1.getD (ldF q.1) 0))))
/-- The least common denominator; the integers; their greatest common divisor; the primitive integers. -/
def sclM (m : Int) : List Rat → Int
  | [] => m
  | x :: l => sclM (m * ((x.den : Int) / (Int.gcd m x.den : Int))) l
def sclO (m : Int) (qs : List Rat) : List Int := qs.map fun x => x.num * (m / (x.den : Int))
def sclG (g : Int) : List Int → Int
  | [] => g
  | z :: l => sclG (Int.gcd g z : Int) l
def scl (qs : List Rat) : List Int := let o := sclO (sclM 1 qs) qs; if sclG 0 o = 0 then o else o.map (· / sclG 0 o)
def prm (r : Rw) : Rw := let l := scl (r.1 ++ [r.2]); ((l.take r.1.length).map (fun z : Int => (z : Rat)), ((l.getD r.1.length 0 : Int) : Rat))

theorem getD_map {α β : Type} (f : α → β) (l : List α) (k : Nat) (a : α) (b : β) (h : k < l.length) : (l.map f).getD k b = f (l.getD k a) := by
  simp [List.getD_eq_getElem?_getD, List.getElem?_map, List.getElem?_eq_getElem h]
theorem rv_lt (r : Rw) (k : Nat) (h : k < r.1.length) : rv r k = r.1.getD k 0 := by
  unfold rv
  rw [List.getD_eq_getElem?_getD, List.getElem?_append_left h, ← List.getD_eq_getElem?_getD]
theorem rv_add (r : Rw) : rv r r.1.length = r.2 := by
  unfold rv
  rw [List.getD_eq_getElem?_getD, List.getElem?_append_right (Nat.le_refl _)]
  simp
theorem rv_gt (r : Rw) (k : Nat) (h : r.1.length < k) : rv r k = 0 := by
  unfold rv
  rw [List.getD_eq_getElem?_getD, List.getElem?_eq_none (by simp; omega)]
  rfl
theorem tms_len (r : Rw) (k : Rat) : (tms r k).1.length = r.1.length := by simp [tms]
theorem pls_len (r q : Rw) (h : q.1.length = r.1.length) : (pls r q).1.length = r.1.length := by simp [pls, h]
theorem rv_tms (r : Rw) (k : Rat) (i : Nat) : rv (tms r k) i = rv r i * k := by
  rcases Nat.lt_trichotomy i r.1.length with h | h | h
  · rw [rv_lt _ _ (by rw [tms_len]; exact h), rv_lt _ _ h]
    show (r.1.map (· * k)).getD i 0 = _
    rw [getD_map (· * k) r.1 i 0 0 h]
  · subst h
    rw [rv_add, ← tms_len r k, rv_add]; rfl
  · rw [rv_gt _ _ (by rw [tms_len]; exact h), rv_gt _ _ h]; grind
theorem rv_pls (r q : Rw) (h : q.1.length = r.1.length) (i : Nat) : rv (pls r q) i = rv r i + rv q i := by
  rcases Nat.lt_trichotomy i r.1.length with h1 | h1 | h1
  · rw [rv_lt _ _ (by rw [pls_len r q h]; exact h1), rv_lt _ _ h1, rv_lt _ _ (by omega)]
    show (List.zipWith (· + ·) r.1 q.1).getD i 0 = _
    rw [List.getD_eq_getElem?_getD, List.getD_eq_getElem?_getD, List.getD_eq_getElem?_getD, List.getElem?_zipWith, List.getElem?_eq_getElem h1, List.getElem?_eq_getElem (by omega : i < q.1.length)]
    rfl
  · subst h1
    rw [rv_add, ← pls_len r q h, rv_add, pls_len r q h, ← h, rv_add]; rfl
  · rw [rv_gt _ _ (by rw [pls_len r q h]; exact h1), rv_gt _ _ h1, rv_gt _ _ (by omega)]; grind
theorem ldF_le (l : List Rat) : ldF l ≤ l.length := by
  induction l with
  | nil => exact Nat.le_refl _
  | cons x l ih => unfold ldF; split <;> simp <;> omega
theorem ldF_zero (l : List Rat) (j : Nat) (h : j < ldF l) : l.getD j 0 = 0 := by
  induction l generalizing j with
  | nil => simp
  | cons x l ih =>
    unfold ldF at h
    split at h
    · rename_i hx
      cases j with
      | zero => simpa using hx
      | succ j => rw [List.getD_cons_succ]; exact ih j (by omega)
    · omega
theorem ldF_ne (l : List Rat) (h : ldF l < l.length) : l.getD (ldF l) 0 ≠ 0 := by
  induction l with
  | nil => simp at h
  | cons x l ih =>
    unfold ldF at h ⊢
    split
    · rename_i hx
      rw [if_pos hx, List.length_cons] at h
      rw [List.getD_cons_succ]; exact ih (by omega)
    · rename_i hx; simpa using hx
theorem ldF_ld (r : Rw) (h : ldF r.1 < r.1.length) : Ld (rv r) (ldF r.1) := by
  refine ⟨by rw [rv_lt _ _ h]; exact ldF_ne _ h, fun k hk => ?_⟩
  rw [rv_lt _ _ (by omega)]; exact ldF_zero _ _ hk
theorem ldF_all (r : Rw) (h : ldF r.1 = r.1.length) (k : Nat) (hk : k < r.1.length) : rv r k = 0 := by
  rw [rv_lt _ _ hk]; exact ldF_zero _ _ (by omega)
theorem ldF_eq (r : Rw) (s : Nat) (h : Ld (rv r) s) (hs : s < r.1.length) : ldF r.1 = s := by
  rcases Nat.lt_trichotomy (ldF r.1) s with h1 | h1 | h1
  · have := h.2 _ h1
    rw [rv_lt _ _ (by omega)] at this
    exact absurd this (ldF_ne _ (by omega))
  · exact h1
  · have := ldF_zero _ _ h1
    rw [← rv_lt _ _ hs] at this
    exact absurd this h.1

/-- One step of Reduce. -/
def red1 (q r : Rw) : Rw := if r.1.getD (ldF q.1) 0 = 0 then r else pls r (tms q (-(r.1.getD (ldF q.1) 0 / q.1.getD (ldF q.1) 0)))
theorem redF_cons (q : Rw) (R : List Rw) (r : Rw) : redF (q :: R) r = redF R (red1 q r) := rfl
theorem red1_len {n : Nat} {q r : Rw} (hq : q.1.length = n) (hr : r.1.length = n) : (red1 q r).1.length = n := by
  unfold red1; split
  · exact hr
  · rw [pls_len _ _ (by rw [tms_len]; omega)]; exact hr
theorem red1_rv {n : Nat} {q r : Rw} (hq : q.1.length = n) (hr : r.1.length = n) (hl : ldF q.1 < n) (i : Nat) : rv (red1 q r) i = rv r i - rv r (ldF q.1) / rv q (ldF q.1) * rv q i := by
  have e1 := rv_lt r (ldF q.1) (by omega)
  have e2 := rv_lt q (ldF q.1) (by omega)
  rw [e1, e2]
  unfold red1; split
  · rename_i h; rw [h]; grind
  · rw [rv_pls _ _ (by rw [tms_len]; omega), rv_tms]; grind
theorem red_len {n : Nat} {R : List Rw} (hR : ∀ q ∈ R, q.1.length = n) {r : Rw} (hr : r.1.length = n) : (redF R r).1.length = n := by
  induction R generalizing r with
  | nil => exact hr
  | cons q R ih => rw [redF_cons]; exact ih (fun q hq => hR q (by simp [hq])) (red1_len (hR q (by simp)) hr)
theorem red_fix {n : Nat} {R : List Rw} (hR : ∀ q ∈ R, q.1.length = n ∧ ldF q.1 < n) {r : Rw} (hr : r.1.length = n) {s : Nat} (hs : ∀ q ∈ R, rv q s = 0) : rv (redF R r) s = rv r s := by
  induction R generalizing r with
  | nil => rfl
  | cons q R ih =>
    have h1 := hR q (by simp)
    rw [redF_cons, ih (fun q hq => hR q (by simp [hq])) (red1_len h1.1 hr) (fun q hq => hs q (by simp [hq])), red1_rv h1.1 hr h1.2, hs q (by simp)]
    grind
theorem red_span {n : Nat} {R : List Rw} (hR : ∀ q ∈ R, q.1.length = n ∧ ldF q.1 < n) {r : Rw} (hr : r.1.length = n) : ∃ v, Sp (R.map rv) v ∧ ∀ k, rv (redF R r) k = rv r k + v k := by
  induction R generalizing r with
  | nil => exact ⟨vz, rfl, fun k => by show rv r k = rv r k + 0; grind⟩
  | cons q R ih =>
    have h1 := hR q (by simp)
    obtain ⟨v, hv, e⟩ := ih (fun q hq => hR q (by simp [hq])) (red1_len h1.1 hr)
    refine ⟨fun k => 1 * v k + -(rv r (ldF q.1) / rv q (ldF q.1)) * rv q k, ?_, fun k => ?_⟩
    · exact (hv.skip (rv q)).lin (Sp.head (rv q) (R.map rv)) 1 _
    · rw [redF_cons, e k, red1_rv h1.1 hr h1.2]; grind
theorem red_zero {n : Nat} {R : List Rw} (hR : ∀ q ∈ R, q.1.length = n ∧ ldF q.1 < n) (hp : R.Pairwise fun q q' => rv q' (ldF q.1) = 0) {r : Rw} (hr : r.1.length = n) : ∀ q ∈ R, rv (redF R r) (ldF q.1) = 0 := by
  induction R generalizing r with
  | nil => intro q hq; cases hq
  | cons p R ih =>
    intro q hq
    have h1 := hR p (by simp)
    rw [redF_cons]
    rcases List.mem_cons.1 hq with rfl | hq
    · rw [red_fix (fun q hq => hR q (by simp [hq])) (red1_len h1.1 hr) (fun q' hq' => (List.pairwise_cons.1 hp).1 q' hq'), red1_rv h1.1 hr h1.2]
      have h0 : rv q (ldF q.1) ≠ 0 := (ldF_ld q (by omega)).1
      grind
    · exact ih (fun q hq => hR q (by simp [hq])) (List.pairwise_cons.1 hp).2 (red1_len h1.1 hr) q hq

theorem sclM_spec (m : Int) (hm : 0 < m) (qs : List Rat) : 0 < sclM m qs ∧ m ∣ sclM m qs ∧ ∀ x ∈ qs, (x.den : Int) ∣ sclM m qs := by
  induction qs generalizing m with
  | nil => exact ⟨hm, Int.dvd_refl _, by simp⟩
  | cons x l ih =>
    have hd : (0 : Int) < x.den := by have := x.den_pos; omega
    have hg : (0 : Int) < (Int.gcd m x.den : Int) := by have := Int.gcd_pos_of_ne_zero_left (x.den : Int) (show m ≠ 0 by omega); omega
    have h0 : (Int.gcd m x.den : Int) ∣ (x.den : Int) := Int.gcd_dvd_right ..
    have h0' : (Int.gcd m x.den : Int) ∣ m := Int.gcd_dvd_left ..
    show 0 < sclM (m * ((x.den : Int) / (Int.gcd m x.den : Int))) l ∧ m ∣ sclM (m * ((x.den : Int) / (Int.gcd m x.den : Int))) l ∧ ∀ y ∈ x :: l, (y.den : Int) ∣ sclM (m * ((x.den : Int) / (Int.gcd m x.den : Int))) l
    generalize (Int.gcd m x.den : Int) = g at *
    obtain ⟨c, hc⟩ := h0
    obtain ⟨e, he⟩ := h0'
    have hq : (x.den : Int) / g = c := by rw [hc]; exact Int.mul_ediv_cancel_left _ (by omega)
    have hc0 : 0 < c := by
      rcases Int.lt_or_le 0 c with h | h
      · exact h
      · have := Int.mul_nonpos_of_nonneg_of_nonpos (Int.le_of_lt hg) h
        omega
    rw [hq]
    have h1 := ih (m * c) (Int.mul_pos hm hc0)
    refine ⟨h1.1, Int.dvd_trans (Int.dvd_mul_right _ _) h1.2.1, fun y hy => ?_⟩
    rcases List.mem_cons.1 hy with rfl | hy
    · refine Int.dvd_trans ⟨e, ?_⟩ h1.2.1
      rw [hc, he, Int.mul_assoc, Int.mul_assoc, Int.mul_comm e c]
    · exact h1.2.2 y hy
theorem sclG_spec (g : Int) (hg : 0 ≤ g) (zs : List Int) : 0 ≤ sclG g zs ∧ sclG g zs ∣ g ∧ (∀ z ∈ zs, sclG g zs ∣ z) ∧ ∀ d : Int, d ∣ g → (∀ z ∈ zs, d ∣ z) → d ∣ sclG g zs := by
  induction zs generalizing g with
  | nil => exact ⟨hg, Int.dvd_refl _, by simp, fun d h _ => h⟩
  | cons z l ih =>
    have h1 := ih (Int.gcd g z : Int) (by omega)
    have ha : (Int.gcd g z : Int) ∣ g := Int.gcd_dvd_left ..
    have hb : (Int.gcd g z : Int) ∣ z := Int.gcd_dvd_right ..
    refine ⟨h1.1, Int.dvd_trans h1.2.1 ha, fun y hy => ?_, fun d h2 h3 => h1.2.2.2 d ?_ fun y hy => h3 y (by simp [hy])⟩
    · rcases List.mem_cons.1 hy with rfl | hy
      · exact Int.dvd_trans h1.2.1 hb
      · exact h1.2.2.1 y hy
    · exact Int.dvd_coe_gcd h2 (h3 z (by simp))
theorem mul_den (x : Rat) : x * ((x.den : Int) : Rat) = (x.num : Rat) := by
  have h : x = (x.num : Rat) / ((x.den : Int) : Rat) := by rw [← Rat.divInt_eq_div, Rat.num_divInt_den]
  have hd : ((x.den : Int) : Rat) ≠ 0 := by
    intro k
    have := x.den_pos
    have k' : (x.den : Int) = 0 := by exact_mod_cast k
    omega
  generalize (x.num : Rat) = a at *
  generalize ((x.den : Int) : Rat) = b at *
  grind
theorem scl_len (qs : List Rat) : (scl qs).length = qs.length := by
  unfold scl
  simp only
  split <;> simp [sclO]
/-- The primitive integers are a positive multiple, and have no common divisor. -/
theorem scl_spec (qs : List Rat) : ∃ c : Rat, 0 < c ∧ (∀ j, j < qs.length → (((scl qs).getD j 0 : Int) : Rat) = c * qs.getD j 0) ∧ ((∃ j, j < qs.length ∧ qs.getD j 0 ≠ 0) → ∀ g : Int, (∀ j, j < qs.length → g ∣ (scl qs).getD j 0) → g ∣ 1) := by
  have hM := sclM_spec 1 (by decide) qs
  have hG := sclG_spec 0 (by decide) (sclO (sclM 1 qs) qs)
  unfold scl
  simp only
  generalize sclM 1 qs = M at *
  have hO : ∀ j, j < qs.length → (((sclO M qs).getD j 0 : Int) : Rat) = (M : Rat) * qs.getD j 0 := by
    intro j hj
    unfold sclO
    rw [getD_map (fun x : Rat => x.num * (M / (x.den : Int))) qs j 0 0 hj]
    have hm := hM.2.2 (qs.getD j 0) (by rw [List.getD_eq_getElem?_getD, List.getElem?_eq_getElem hj]; exact List.getElem_mem hj)
    generalize qs.getD j 0 = x at *
    obtain ⟨e, he⟩ := hm
    have hd : (0 : Int) < x.den := by have := x.den_pos; omega
    rw [he, Int.mul_ediv_cancel_left _ (by omega)]
    have hx := mul_den x
    have h1 : ((x.num * e : Int) : Rat) = (x.num : Rat) * (e : Rat) := Rat.intCast_mul ..
    have h2 : (((x.den : Int) * e : Int) : Rat) = ((x.den : Int) : Rat) * (e : Rat) := Rat.intCast_mul ..
    rw [h1, h2, ← hx]
    grind
  have hL : (sclO M qs).length = qs.length := by simp [sclO]
  have hMr : (0 : Rat) < (M : Rat) := by exact_mod_cast hM.1
  by_cases hz : sclG 0 (sclO M qs) = 0
  · rw [if_pos hz]
    refine ⟨M, hMr, hO, ?_⟩
    rintro ⟨j, hj, hne⟩ g _
    exfalso
    have h1 := hG.2.2.1 ((sclO M qs).getD j 0) (by rw [List.getD_eq_getElem?_getD, List.getElem?_eq_getElem (by omega)]; exact List.getElem_mem (by omega))
    rw [hz] at h1
    have h2 := Int.zero_dvd.1 h1
    have h3 := hO j hj
    rw [h2] at h3
    have h4 : (M : Rat) * qs.getD j 0 = 0 := by rw [← h3]; rfl
    rcases Rat.mul_eq_zero.1 h4 with h | h
    · rw [h] at hMr; exact absurd hMr (by decide)
    · exact hne h
  · rw [if_neg hz]
    generalize hGe : sclG 0 (sclO M qs) = G at *
    have hGp : 0 < G := by have := hG.1; omega
    have hGr : (0 : Rat) < (G : Rat) := by exact_mod_cast hGp
    have hGn : (G : Rat) ≠ 0 := by intro h; rw [h] at hGr; exact absurd hGr (by decide)
    have hT : ∀ j, j < qs.length → ((sclO M qs).map (· / G)).getD j 0 * G = (sclO M qs).getD j 0 := by
      intro j hj
      rw [getD_map (· / G) (sclO M qs) j 0 0 (by omega)]
      exact Int.ediv_mul_cancel (hG.2.2.1 _ (by rw [List.getD_eq_getElem?_getD, List.getElem?_eq_getElem (by omega)]; exact List.getElem_mem (by omega)))
    refine ⟨(M : Rat) / G, by rw [Rat.div_def]; exact Rat.mul_pos hMr (Rat.inv_pos.2 hGr), fun j hj => ?_, ?_⟩
    · have h1 := hO j hj
      rw [← hT j hj, Rat.intCast_mul] at h1
      grind
    · rintro _ g hg
      have h1 := hG.2.2.2 (g * G) (Int.dvd_zero _) (fun z hz => by
        obtain ⟨j, hj, rfl⟩ := List.getElem_of_mem hz
        obtain ⟨u, hu⟩ := hg j (by omega)
        have h2 := hT j (by omega)
        refine ⟨u, ?_⟩
        have h4 : (sclO M qs).getD j 0 = (sclO M qs)[j] := by rw [List.getD_eq_getElem?_getD, List.getElem?_eq_getElem hj]; rfl
        have h3 : (sclO M qs)[j] = ((sclO M qs).map (· / G)).getD j 0 * G := by rw [h2, h4]
        rw [h3, hu, Int.mul_assoc, Int.mul_assoc, Int.mul_comm u G])
      obtain ⟨u, hu⟩ := h1
      refine ⟨u, ?_⟩
      have h2 : G * 1 = G * (g * u) := by rw [Int.mul_one, ← Int.mul_assoc, Int.mul_comm G g]; exact hu
      exact Int.eq_of_mul_eq_mul_left (by omega) h2
theorem prm_len (r : Rw) : (prm r).1.length = r.1.length := by simp [prm, scl_len]
theorem rv_prm (r : Rw) (k : Nat) (hk : k ≤ r.1.length) : rv (prm r) k = (((scl (r.1 ++ [r.2])).getD k 0 : Int) : Rat) := by
  rcases Nat.lt_or_ge k r.1.length with h | h
  · rw [rv_lt _ _ (by rw [prm_len]; exact h)]
    show (((scl (r.1 ++ [r.2])).take r.1.length).map (fun z : Int => (z : Rat))).getD k 0 = _
    rw [getD_map (fun z : Int => (z : Rat)) _ k 0 0 (by simp [scl_len]; omega)]
    simp [List.getD_eq_getElem?_getD, List.getElem?_take, h]
  · have : k = r.1.length := by omega
    subst this
    rw [← prm_len r, rv_add, prm_len]
    rfl
/-- Primitive: a positive multiple; integers without a common divisor. -/
theorem prm_spec (r : Rw) : ∃ c : Rat, 0 < c ∧ (∀ k, rv (prm r) k = c * rv r k) ∧ ((∃ k, rv r k ≠ 0) → Pm (rv (prm r))) := by
  obtain ⟨c, hc, h1, h2⟩ := scl_spec (r.1 ++ [r.2])
  have hl : (r.1 ++ [r.2]).length = r.1.length + 1 := by simp
  refine ⟨c, hc, fun k => ?_, ?_⟩
  · rcases Nat.lt_or_ge r.1.length k with h | h
    · rw [rv_gt _ _ (by rw [prm_len]; exact h), rv_gt _ _ h]; grind
    · rw [rv_prm r k h, h1 k (by omega)]; rfl
  · rintro ⟨k, hk⟩
    have hkl : k ≤ r.1.length := by
      rcases Nat.lt_or_ge r.1.length k with h | h
      · exact absurd (rv_gt _ _ h) hk
      · exact h
    refine ⟨fun k => if k ≤ r.1.length then (scl (r.1 ++ [r.2])).getD k 0 else 0, fun i => ?_, fun g hg => h2 ⟨k, by omega, hk⟩ g fun j hj => ?_⟩
    · show _ = (((if i ≤ r.1.length then (scl (r.1 ++ [r.2])).getD i 0 else 0) : Int) : Rat)
      split
      · rename_i h; exact rv_prm r i h
      · rename_i h; rw [rv_gt _ _ (by rw [prm_len]; omega)]; rfl
    · have h3 : g ∣ (if j ≤ r.1.length then (scl (r.1 ++ [r.2])).getD j 0 else 0) := hg j
      rwa [if_pos (by omega)] at h3
end Go.Proofs.Ytjmbpeniibdnoaa
