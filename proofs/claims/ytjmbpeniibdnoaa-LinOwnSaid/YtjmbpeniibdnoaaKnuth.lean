/- Plain mathematics: long division (Knuth's algorithm D), base 2^32. -/
import Derived.Test.YtjmbpeniibdnoaaDivMath
set_option linter.unusedVariables false
set_option linter.unusedSimpArgs false
namespace Go.Proofs.Ytjmbpeniibdnoaa

theorem kd_top {P lo vl T V u2 v2 v1 a : Int} (hP : 0 < P) (l0 : 0 ≤ lo) (l1 : lo < P) (w0 : 0 ≤ vl) (w1 : vl < P) (u20 : 0 ≤ u2) (u21 : u2 < 4294967296) (v20 : 0 ≤ v2) (v21 : v2 < 4294967296)
    (hT : T = lo + P * (u2 + 4294967296 * a)) (hV : V = vl + P * (v2 + 4294967296 * v1)) (hlt : T < 4294967296 * V) : a ≤ 4294967296 * v1 + 4294967295 := by
  apply Int.not_lt.1
  intro h
  have h1 : P * (4294967296 * (4294967296 * v1 + 4294967296)) ≤ P * (u2 + 4294967296 * a) := Int.mul_le_mul_of_nonneg_left (by omega) (by omega)
  have h2 : P * (v2 + 4294967296 * v1) ≤ P * (4294967295 + 4294967296 * v1) := Int.mul_le_mul_of_nonneg_left (by omega) (by omega)
  grind
theorem kd_ge {P lo vl T V u2 v2 v1 a qs : Int} (hP : 0 < P) (l0 : 0 ≤ lo) (l1 : lo < P) (w0 : 0 ≤ vl) (w1 : vl < P) (u20 : 0 ≤ u2) (u21 : u2 < 4294967296) (v20 : 0 ≤ v2) (v21 : v2 < 4294967296)
    (hT : T = lo + P * (u2 + 4294967296 * a)) (hV : V = vl + P * (v2 + 4294967296 * v1)) (hq : qs * V ≤ T) (hq0 : 0 ≤ qs) (hv1 : 0 < v1) : qs ≤ a / v1 := by
  rw [Int.le_ediv_iff_mul_le hv1]
  apply Int.not_lt.1
  intro h
  have h1 : P * (4294967296 * (a + 1)) ≤ P * (4294967296 * (qs * v1)) := Int.mul_le_mul_of_nonneg_left (by omega) (by omega)
  have h2 : qs * (P * (4294967296 * v1)) ≤ qs * V := Int.mul_le_mul_of_nonneg_left (by rw [hV]; have := Int.mul_nonneg (show 0 ≤ P by omega) v20; grind) hq0
  have h3 : P * u2 ≤ P * 4294967295 := Int.mul_le_mul_of_nonneg_left (by omega) (by omega)
  grind
theorem kd_dec {P lo vl T V u2 v2 v1 a qs q r : Int} (hP : 0 < P) (l0 : 0 ≤ lo) (l1 : lo < P) (w0 : 0 ≤ vl) (u20 : 0 ≤ u2) 
    (hT : T = lo + P * (u2 + 4294967296 * a)) (hV : V = vl + P * (v2 + 4294967296 * v1)) (hq : qs * V ≤ T) (hV0 : 0 < V) (hqq : 0 ≤ q) (ha : a = q * v1 + r) (hc : r * 4294967296 + u2 < q * v2) : qs < q := by
  apply Int.not_le.1
  intro h
  have h1 : q * V ≤ qs * V := Int.mul_le_mul_of_nonneg_right h (by omega)
  have h2 : P * (r * 4294967296 + u2 + 1) ≤ P * (q * v2) := Int.mul_le_mul_of_nonneg_left (by omega) (by omega)
  have h3 : 0 ≤ q * vl := Int.mul_nonneg hqq w0
  have e1 : q * V = q * vl + P * (q * v2) + 4294967296 * (P * (q * v1)) := by rw [hV]; grind
  have e2 : P * (r * 4294967296 + u2 + 1) = 4294967296 * (P * r) + P * u2 + P := by grind
  have e3 : T = lo + P * u2 + 4294967296 * (P * (q * v1)) + 4294967296 * (P * r) := by rw [hT, ha]; grind
  omega
theorem kd_le {P lo vl T V u2 v2 v1 a qs q r : Int} (hP : 0 < P) (l0 : 0 ≤ lo) (w0 : 0 ≤ vl) (w1 : vl < P) (v20 : 0 ≤ v2)
    (hT : T = lo + P * (u2 + 4294967296 * a)) (hV : V = vl + P * (v2 + 4294967296 * v1)) (hq : T < (qs + 1) * V) (hqq : 0 ≤ q) (hqB : q ≤ 4294967295) (hv1 : 2147483648 ≤ v1) (ha : a = q * v1 + r) (hc : q * v2 ≤ r * 4294967296 + u2) : q ≤ qs + 1 := by
  apply Int.not_lt.1
  intro h
  have h2 : P * (q * v2) ≤ P * (r * 4294967296 + u2) := Int.mul_le_mul_of_nonneg_left (by omega) (by omega)
  have h3 : q * vl ≤ 4294967295 * vl := Int.mul_le_mul_of_nonneg_right hqB w0
  have h4 : P * 2147483648 ≤ P * v1 := Int.mul_le_mul_of_nonneg_left hv1 (by omega)
  have h5 : 0 ≤ P * v2 := Int.mul_nonneg (by omega) v20
  have eV : V = vl + P * v2 + 4294967296 * (P * v1) := by rw [hV]; grind
  have h1 : (qs + 2) * V ≤ q * V := Int.mul_le_mul_of_nonneg_right (by omega) (by omega)
  have e1 : q * V = q * vl + P * (q * v2) + 4294967296 * (P * (q * v1)) := by rw [hV]; grind
  have e2 : P * (r * 4294967296 + u2) = 4294967296 * (P * r) + P * u2 := by grind
  have e3 : T = lo + P * u2 + 4294967296 * (P * (q * v1)) + 4294967296 * (P * r) := by rw [hT, ha]; grind
  have e4 : (qs + 2) * V = (qs + 1) * V + V := by grind
  omega

theorem getD_drop (l : List Int) (i j : Nat) : (l.drop i).getD j 0 = l.getD (i + j) 0 := by
  simp [List.getD_eq_getElem?_getD, List.getElem?_drop]
theorem val_drop_split (B : Int) (l : List Int) (i : Nat) : val B l = val B (l.take i) + B ^ i * val B (l.drop i) := by
  by_cases h : i ≤ l.length
  · have := val_append B (l.take i) (l.drop i)
    rwa [List.take_append_drop, List.length_take, Nat.min_eq_left h] at this
  · rw [List.take_of_length_le (by omega), List.drop_of_length_le (by omega)]; simp [val]
theorem val_drop_cons (B : Int) (l : List Int) (i : Nat) : val B (l.drop i) = l.getD i 0 + B * val B (l.drop (i + 1)) := by
  by_cases h : i < l.length
  · rw [drop_getD l i h]; rfl
  · rw [List.drop_of_length_le (by omega), List.drop_of_length_le (by omega), List.getD_eq_getElem?_getD, List.getElem?_eq_none (by omega)]; simp [val]
theorem val_drop_zero (B : Int) (l : List Int) (p : Nat) (h : ∀ j, p ≤ j → l.getD j 0 = 0) : val B (l.drop p) = 0 := by
  have h1 := val_drop_split B l p
  rw [val_take_of_zero B l p h] at h1
  by_cases hB : B ^ p = 0
  · by_cases hB0 : B = 0
    · rw [val_drop_cons, h p (Nat.le_refl _), hB0]; simp
    · exact absurd hB (Int.pow_ne_zero hB0)
  · have h2 : B ^ p * val B (l.drop p) = 0 := by omega
    rcases Int.mul_eq_zero.1 h2 with h3 | h3
    · exact absurd h3 hB
    · exact h3
theorem high_zero {B : Int} (hB : 1 < B) {l : List Int} (hd : Dig B l) {m : Nat} (h : val B l < B ^ m) (j : Nat) (hj : m ≤ j) : l.getD j 0 = 0 := by
  have h0 := (hd.at j (by omega)).1
  apply Classical.byContradiction
  intro hne
  have hp := pow_mono (B := B) (by omega) hj
  have hjl : j < l.length := by
    apply Classical.byContradiction
    intro hc
    apply hne
    rw [List.getD_eq_getElem?_getD, List.getElem?_eq_none (by omega)]; rfl
  rw [val_split B l j hjl] at h
  have h1 := val_take_ge (by omega) hd j
  have h2 : 0 ≤ val B (l.drop (j + 1)) := val_nonneg (by omega) (hd.drop _)
  have h3 : 0 ≤ B * val B (l.drop (j + 1)) := Int.mul_nonneg (by omega) h2
  have h4 : B ^ j * 1 ≤ B ^ j * (l.getD j 0 + B * val B (l.drop (j + 1))) := Int.mul_le_mul_of_nonneg_left (by omega) (by have := pow_pos' (show 0 < B by omega) j; omega)
  omega
theorem val_three (B : Int) (l : List Int) (p : Nat) (h : ∀ j, p + 3 ≤ j → l.getD j 0 = 0) : val B l = val B (l.take p) + B ^ p * (l.getD p 0 + B * (l.getD (p + 2) 0 * B + l.getD (p + 1) 0)) := by
  rw [val_drop_split B l p, val_drop_cons, val_drop_cons, val_drop_cons, val_drop_zero B l (p + 1 + 1 + 1) h]
  grind
theorem val_top2 (B : Int) (l : List Int) (p : Nat) (h : l.length = p + 2) : val B l = val B (l.take p) + B ^ p * (l.getD p 0 + B * l.getD (p + 1) 0) := by
  rw [val_drop_split B l p, val_drop_cons, val_drop_cons, List.drop_of_length_le (by omega)]
  simp [val]

/-- The divisor: p + 2 digits, the first bit set. -/
structure Dv (v : List Int) (p : Nat) : Prop where
  len : v.length = p + 2
  dig : Dig 4294967296 v
  top : 2147483648 ≤ v.getD (p + 1) 0
/-- Behind the digits from k on (N digits of u, the divisor has m). -/
structure KI (X : Int) (v : List Int) (p N k : Nat) (u out : List Int) : Prop where
  lenu : u.length = N
  leno : out.length = N - (p + 2)
  du : Dig 4294967296 u
  dout : Dig 4294967296 out
  lt : val 4294967296 (u.drop k) < val 4294967296 v
  zero : ∀ j, j < k → out.getD j 0 = 0
  eq : X = val 4294967296 u + val 4294967296 v * val 4294967296 out
theorem Dv.lt {v : List Int} {p : Nat} (h : Dv v p) : val 4294967296 v < 4294967296 ^ (p + 2) := by
  have := val_lt (by omega) h.dig
  rwa [h.len] at this
theorem Dv.pos {v : List Int} {p : Nat} (h : Dv v p) : 0 < val 4294967296 v := by
  rw [val_top2 _ v p h.len]
  have h1 := val_take_ge (B := 4294967296) (by omega) h.dig p
  have h2 := h.dig.at p (by omega)
  have h3 := h.top
  have hp := pow_pos' (B := 4294967296) (by omega) p
  have := Int.mul_pos hp (show 0 < v.getD p 0 + 4294967296 * v.getD (p + 1) 0 by omega)
  omega
/-- What one round knows of its digits. -/
structure Rd (v : List Int) (p i : Nat) (u : List Int) (T qs : Int) : Prop where
  eT : T = val 4294967296 (u.drop i)
  T0 : 0 ≤ T
  lo : qs * val 4294967296 v ≤ T
  hi : T < (qs + 1) * val 4294967296 v
  q0 : 0 ≤ qs
  qB : qs ≤ 4294967295
  high : ∀ j, i + (p + 2) < j → u.getD j 0 = 0
theorem KI.rd {X : Int} {v : List Int} {p N i : Nat} {u out : List Int} (h : KI X v p N (i + 1) u out) (hv : Dv v p) : Rd v p i u (val 4294967296 (u.drop i)) (val 4294967296 (u.drop i) / val 4294967296 v) := by
  have hV := hv.pos
  have h0 : 0 ≤ val 4294967296 (u.drop i) := val_nonneg (by omega) (h.du.drop _)
  have hlt := h.lt
  have hd := h.du.at i (by omega)
  have hc := val_drop_cons 4294967296 u i
  have hT : val 4294967296 (u.drop i) < 4294967296 * val 4294967296 v := by
    have : 4294967296 * (val 4294967296 (u.drop (i + 1)) + 1) ≤ 4294967296 * val 4294967296 v := Int.mul_le_mul_of_nonneg_left (by omega) (by omega)
    omega
  refine ⟨rfl, h0, ?_, ?_, Int.ediv_nonneg h0 (by omega), ?_, ?_⟩
  · exact Int.ediv_mul_le _ (by omega)
  · exact Int.lt_ediv_add_one_mul_self (val 4294967296 (u.drop i)) hV
  · have := Int.ediv_lt_of_lt_mul hV hT; omega
  · intro j hj
    have hz := high_zero (B := 4294967296) (by omega) (h.du.drop (i + 1)) (Int.lt_trans hlt hv.lt) (j - (i + 1)) (by omega)
    rw [getD_drop] at hz
    rwa [show i + 1 + (j - (i + 1)) = j by omega] at hz

/-- The guess of a digit: a = q v1 + r. -/
structure Gs (v : List Int) (p i : Nat) (u : List Int) (qs a q r : Int) : Prop where
  ea : a = u.getD (i + p + 2) 0 * 4294967296 + u.getD (i + p + 1) 0
  eq : a = q * v.getD (p + 1) 0 + r
  q1 : q ≤ 4294967297
  ge : qs ≤ q
  r0 : 0 ≤ r
theorem chunk {v : List Int} {p i : Nat} {u : List Int} {T qs : Int} (h : Rd v p i u T qs) : T = val 4294967296 ((u.drop i).take p) + 4294967296 ^ p * (u.getD (i + p) 0 + 4294967296 * (u.getD (i + p + 2) 0 * 4294967296 + u.getD (i + p + 1) 0)) := by
  have := val_three 4294967296 (u.drop i) p (fun j hj => by rw [getD_drop]; exact h.high _ (by omega))
  rw [h.eT, this, getD_drop, getD_drop, getD_drop]
  simp only [Nat.add_assoc]
theorem Gs.bound {v : List Int} {p i : Nat} {u : List Int} {T qs a q r : Int} (hR : Rd v p i u T qs) (hv : Dv v p) (hu : Dig 4294967296 u) (ha : a = u.getD (i + p + 2) 0 * 4294967296 + u.getD (i + p + 1) 0) : a ≤ 4294967296 * v.getD (p + 1) 0 + 4294967295 := by
  have hT := chunk hR
  rw [← ha] at hT
  have l0 := val_take_ge (B := 4294967296) (by omega) (hu.drop i) p
  have l1 := val_lt (B := 4294967296) (by omega) ((hu.drop i).take p)
  have hpl := pow_mono (B := 4294967296) (by omega) (show ((u.drop i).take p).length ≤ p by simp; omega)
  have w0 := val_take_ge (B := 4294967296) (by omega) hv.dig p
  have w1 := val_take_lt (B := 4294967296) (by omega) hv.dig p (by rw [hv.len]; omega)
  have u2 := hu.at (i + p) (by omega)
  have v2 := hv.dig.at p (by omega)
  refine kd_top (pow_pos' (B := 4294967296) (by omega) p) l0 (by omega) w0 w1 u2.1 u2.2 v2.1 v2.2 hT (val_top2 _ v p hv.len) ?_
  have h1 := hR.hi
  have h2 := hR.qB
  have h3 : (qs + 1) * val 4294967296 v ≤ 4294967296 * val 4294967296 v := Int.mul_le_mul_of_nonneg_right (by omega) (by have := hv.pos; omega)
  omega
theorem Gs.start {v : List Int} {p i : Nat} {u : List Int} {T qs a : Int} (hR : Rd v p i u T qs) (hv : Dv v p) (hu : Dig 4294967296 u) (ha : a = u.getD (i + p + 2) 0 * 4294967296 + u.getD (i + p + 1) 0) : Gs v p i u qs a (a / v.getD (p + 1) 0) (a % v.getD (p + 1) 0) := by
  have hT := chunk hR
  rw [← ha] at hT
  have l0 := val_take_ge (B := 4294967296) (by omega) (hu.drop i) p
  have l1 := val_lt (B := 4294967296) (by omega) ((hu.drop i).take p)
  have hpl := pow_mono (B := 4294967296) (by omega) (show ((u.drop i).take p).length ≤ p by simp; omega)
  have w0 := val_take_ge (B := 4294967296) (by omega) hv.dig p
  have w1 := val_take_lt (B := 4294967296) (by omega) hv.dig p (by rw [hv.len]; omega)
  have u2 := hu.at (i + p) (by omega)
  have v2 := hv.dig.at p (by omega)
  have v1 := hv.top
  have hb := Gs.bound (q := 0) (r := 0) hR hv hu ha
  refine ⟨ha, by have := Int.mul_ediv_add_emod a (v.getD (p + 1) 0); rw [Int.mul_comm] at this; omega, ?_, ?_, Int.emod_nonneg _ (by omega)⟩
  · have : a / v.getD (p + 1) 0 < 4294967298 := Int.ediv_lt_of_lt_mul (by omega) (by omega)
    omega
  · exact kd_ge (pow_pos' (B := 4294967296) (by omega) p) l0 (by omega) w0 w1 u2.1 u2.2 v2.1 v2.2 hT (val_top2 _ v p hv.len) hR.lo hR.q0 (by omega)
theorem Gs.dec {v : List Int} {p i : Nat} {u : List Int} {T qs a q r : Int} (h : Gs v p i u qs a q r) (hR : Rd v p i u T qs) (hv : Dv v p) (hu : Dig 4294967296 u)
    (hc : 4294967296 ≤ q ∨ r * 4294967296 + u.getD (i + p) 0 < q * v.getD p 0) : Gs v p i u qs a (q - 1) (r + v.getD (p + 1) 0) := by
  have hv1 := hv.top
  refine ⟨h.ea, by rw [h.eq]; grind, by have := h.q1; omega, ?_, by have := h.r0; omega⟩
  rcases hc with hc | hc
  · have := hR.qB; omega
  · have hT := chunk hR
    rw [← h.ea] at hT
    have l0 := val_take_ge (B := 4294967296) (by omega) (hu.drop i) p
    have l1 := val_lt (B := 4294967296) (by omega) ((hu.drop i).take p)
    have hpl := pow_mono (B := 4294967296) (by omega) (show ((u.drop i).take p).length ≤ p by simp; omega)
    have w0 := val_take_ge (B := 4294967296) (by omega) hv.dig p
    have u2 := hu.at (i + p) (by omega)
    have := kd_dec (pow_pos' (B := 4294967296) (by omega) p) l0 (by omega) w0 u2.1 hT (val_top2 _ v p hv.len) hR.lo hv.pos (by have := h.ge; have := hR.q0; omega) h.eq hc
    omega
/-- The guess is good: at most one too large. -/
structure Good (qs q : Int) : Prop where
  ge : qs ≤ q
  le : q ≤ qs + 1
  lt : q ≤ 4294967295
theorem Gs.good {v : List Int} {p i : Nat} {u : List Int} {T qs a q r : Int} (h : Gs v p i u qs a q r) (hR : Rd v p i u T qs) (hv : Dv v p) (hu : Dig 4294967296 u)
    (hc : (q < 4294967296 ∧ q * v.getD p 0 ≤ r * 4294967296 + u.getD (i + p) 0) ∨ 4294967296 ≤ r) : Good qs q := by
  have hv1 := hv.top
  have hb := Gs.bound (q := 0) (r := 0) hR hv hu h.ea
  have e := h.eq
  have q0 : 0 ≤ q := by have := h.ge; have := hR.q0; omega
  have u2 := hu.at (i + p) (by omega)
  have v2 := hv.dig.at p (by omega)
  have hq : q ≤ 4294967295 := by
    rcases hc with hc | hc
    · omega
    · apply Int.not_lt.1
      intro hlt
      have : 4294967296 * v.getD (p + 1) 0 ≤ q * v.getD (p + 1) 0 := Int.mul_le_mul_of_nonneg_right (by omega) (by omega)
      omega
  have hc2 : q * v.getD p 0 ≤ r * 4294967296 + u.getD (i + p) 0 := by
    rcases hc with hc | hc
    · exact hc.2
    · have : q * v.getD p 0 ≤ 4294967295 * v.getD p 0 := Int.mul_le_mul_of_nonneg_right hq v2.1
      omega
  have hT := chunk hR
  rw [← h.ea] at hT
  have l0 := val_take_ge (B := 4294967296) (by omega) (hu.drop i) p
  have w0 := val_take_ge (B := 4294967296) (by omega) hv.dig p
  have w1 := val_take_lt (B := 4294967296) (by omega) hv.dig p (by rw [hv.len]; omega)
  exact ⟨h.ge, kd_le (pow_pos' (B := 4294967296) (by omega) p) l0 w0 w1 v2.1 hT (val_top2 _ v p hv.len) hR.hi q0 hq hv1 e hc2, hq⟩
end Go.Proofs.Ytjmbpeniibdnoaa
