/- Plain mathematics: long division, the subtraction, the adding back, the rest. -/
import Derived.Test.YtjmbpeniibdnoaaKnuth
set_option linter.unusedVariables false
set_option linter.unusedSimpArgs false
namespace Go.Proofs.Ytjmbpeniibdnoaa

/-- u is u0, changed by d in the digits from i up to t. -/
structure Ch (u0 u : List Int) (i t : Nat) (d : Int) : Prop where
  len : u.length = u0.length
  dig : Dig 4294967296 u
  low : ∀ j, j < i → u.getD j 0 = u0.getD j 0
  high : ∀ j, t ≤ j → u.getD j 0 = u0.getD j 0
  eq : val 4294967296 u = val 4294967296 u0 + d
theorem Ch.start {u0 : List Int} (h : Dig 4294967296 u0) (i t : Nat) : Ch u0 u0 i t 0 := ⟨rfl, h, fun _ _ => rfl, fun _ _ => rfl, by simp⟩
theorem Ch.set {u0 u : List Int} {i t : Nat} {d x d' : Int} (h : Ch u0 u i t d) (hi : i ≤ t) (ht : t < u0.length) (x0 : 0 ≤ x) (x1 : x < 4294967296) (hd : d' = d + 4294967296 ^ t * (x - u0.getD t 0)) : Ch u0 (u.set t x) i (t + 1) d' :=
  ⟨by simp [h.len], h.dig.set t x0 x1, fun j hj => by rw [getD_set_ne _ _ _ _ (by omega)]; exact h.low j hj, fun j hj => by rw [getD_set_ne _ _ _ _ (by omega)]; exact h.high j (by omega), by
    rw [val_set _ _ _ _ (by rw [h.len]; exact ht), h.eq, h.high t (Nat.le_refl _), hd]; omega⟩

/-- The product is taken away: t digits of it. -/
structure Sb (v : List Int) (i : Nat) (q : Int) (u0 : List Int) (t : Nat) (u : List Int) (bo ca : Int) : Prop where
  b0 : 0 ≤ bo
  b1 : bo ≤ 1
  c0 : 0 ≤ ca
  c1 : ca ≤ 4294967295
  ch : Ch u0 u i (i + t) (4294967296 ^ (i + t) * (ca + bo) - 4294967296 ^ i * (q * val 4294967296 (v.take t)))
theorem Sb.start {v u0 : List Int} (h : Dig 4294967296 u0) (i : Nat) (q : Int) : Sb v i q u0 0 u0 0 0 :=
  ⟨by omega, by omega, by omega, by omega, by have := Ch.start h i (i + 0); simpa [val] using this⟩
theorem Sb.step {v u0 u : List Int} {i t : Nat} {q bo ca : Int} (h : Sb v i q u0 t u bo ca) (hv : Dig 4294967296 v) (hu : Dig 4294967296 u0) (ht : i + t < u0.length) (q0 : 0 ≤ q) (q1 : q ≤ 4294967295) :
    Sb v i q u0 (t + 1) (u.set (i + t) ((u0.getD (i + t) 0 - (q * v.getD t 0 + ca) % 4294967296 - bo) % 4294967296)) (if u0.getD (i + t) 0 - (q * v.getD t 0 + ca) % 4294967296 - bo < 0 then 1 else 0) ((q * v.getD t 0 + ca) / 4294967296) := by
  have hd := hv.at t (by omega)
  have ho := hu.at (i + t) (by omega)
  have b0 := h.b0
  have b1 := h.b1
  have c0 := h.c0
  have c1 := h.c1
  have m0 : 0 ≤ q * v.getD t 0 := Int.mul_nonneg q0 hd.1
  have m1 : q * v.getD t 0 ≤ 4294967295 * 4294967295 := Int.le_trans (Int.mul_le_mul_of_nonneg_right q1 hd.1) (Int.mul_le_mul_of_nonneg_left (by omega) (by omega))
  refine ⟨by split <;> omega, by split <;> omega, by omega, by omega, ?_⟩
  have hch := h.ch.set (x := (u0.getD (i + t) 0 - (q * v.getD t 0 + ca) % 4294967296 - bo) % 4294967296) (d' := 4294967296 ^ (i + (t + 1)) * ((q * v.getD t 0 + ca) / 4294967296 + (if u0.getD (i + t) 0 - (q * v.getD t 0 + ca) % 4294967296 - bo < 0 then 1 else 0)) - 4294967296 ^ i * (q * val 4294967296 (v.take (t + 1)))) (by omega) ht (by omega) (by omega) ?_
  · exact hch
  · have e1 : (u0.getD (i + t) 0 - (q * v.getD t 0 + ca) % 4294967296 - bo) % 4294967296 = u0.getD (i + t) 0 - (q * v.getD t 0 + ca) % 4294967296 - bo + 4294967296 * (if u0.getD (i + t) 0 - (q * v.getD t 0 + ca) % 4294967296 - bo < 0 then 1 else 0) := by split <;> omega
    rw [e1, val_take_any, ← Nat.add_assoc, Int.pow_succ, Int.pow_add]
    have hem := Int.emod_add_mul_ediv (q * v.getD t 0 + ca) 4294967296
    generalize (if u0.getD (i + t) 0 - (q * v.getD t 0 + ca) % 4294967296 - bo < 0 then 1 else 0 : Int) = nb at *
    generalize (q * v.getD t 0 + ca) / 4294967296 = nc at *
    generalize (q * v.getD t 0 + ca) % 4294967296 = r at *
    generalize (4294967296 : Int) ^ i = P at *
    generalize (4294967296 : Int) ^ t = Q at *
    generalize u0.getD (i + t) 0 = o at *
    generalize v.getD t 0 = d at *
    generalize val 4294967296 (v.take t) = W at *
    have : r = q * d + ca - 4294967296 * nc := by omega
    subst this
    grind
/-- The last digit of the subtraction. -/
theorem Sb.last {v u0 u : List Int} {i : Nat} {q bo ca : Int} (h : Sb v i q u0 v.length u bo ca) (hu : Dig 4294967296 u0) (ht : i + v.length < u0.length) :
    Ch u0 (u.set (i + v.length) ((u0.getD (i + v.length) 0 - ca - bo) % 4294967296)) i (i + v.length + 1) (4294967296 ^ (i + v.length + 1) * (if u0.getD (i + v.length) 0 - ca - bo < 0 then 1 else 0) - 4294967296 ^ i * (q * val 4294967296 v)) := by
  have ho := hu.at (i + v.length) (by omega)
  have b0 := h.b0
  have b1 := h.b1
  have c0 := h.c0
  have c1 := h.c1
  refine h.ch.set (by omega) ht (by omega) (by omega) ?_
  have e1 : (u0.getD (i + v.length) 0 - ca - bo) % 4294967296 = u0.getD (i + v.length) 0 - ca - bo + 4294967296 * (if u0.getD (i + v.length) 0 - ca - bo < 0 then 1 else 0) := by split <;> omega
  rw [e1, List.take_of_length_le (Nat.le_refl _), Int.pow_succ]
  generalize (if u0.getD (i + v.length) 0 - ca - bo < 0 then 1 else 0 : Int) = nb at *
  generalize (4294967296 : Int) ^ i = P at *
  generalize (4294967296 : Int) ^ (i + v.length) = Q at *
  grind

/-- The divisor is added back: t digits of it. -/
structure Ab (v : List Int) (i : Nat) (u1 : List Int) (t : Nat) (u : List Int) (c : Int) : Prop where
  c0 : 0 ≤ c
  c1 : c ≤ 1
  ch : Ch u1 u i (i + t) (4294967296 ^ i * val 4294967296 (v.take t) - 4294967296 ^ (i + t) * c)
theorem Ab.start {v u1 : List Int} (h : Dig 4294967296 u1) (i : Nat) : Ab v i u1 0 u1 0 :=
  ⟨by omega, by omega, by have := Ch.start h i (i + 0); simpa [val] using this⟩
theorem Ab.step {v u1 u : List Int} {i t : Nat} {c : Int} (h : Ab v i u1 t u c) (hv : Dig 4294967296 v) (hu : Dig 4294967296 u1) (ht : i + t < u1.length) :
    Ab v i u1 (t + 1) (u.set (i + t) ((u1.getD (i + t) 0 + v.getD t 0 + c) % 4294967296)) ((u1.getD (i + t) 0 + v.getD t 0 + c) / 4294967296) := by
  have hd := hv.at t (by omega)
  have ho := hu.at (i + t) (by omega)
  have c0 := h.c0
  have c1 := h.c1
  refine ⟨by omega, by omega, ?_⟩
  have hch := h.ch.set (x := (u1.getD (i + t) 0 + v.getD t 0 + c) % 4294967296) (d' := 4294967296 ^ i * val 4294967296 (v.take (t + 1)) - 4294967296 ^ (i + (t + 1)) * ((u1.getD (i + t) 0 + v.getD t 0 + c) / 4294967296)) (by omega) ht (by omega) (by omega) ?_
  · exact hch
  · rw [val_take_any, ← Nat.add_assoc, Int.pow_succ, Int.pow_add]
    have hem := Int.emod_add_mul_ediv (u1.getD (i + t) 0 + v.getD t 0 + c) 4294967296
    generalize (u1.getD (i + t) 0 + v.getD t 0 + c) / 4294967296 = nc at *
    generalize (u1.getD (i + t) 0 + v.getD t 0 + c) % 4294967296 = r at *
    generalize (4294967296 : Int) ^ i = P at *
    generalize (4294967296 : Int) ^ t = Q at *
    have : r = u1.getD (i + t) 0 + v.getD t 0 + c - 4294967296 * nc := by omega
    subst this
    grind
theorem Ab.last {v u1 u : List Int} {i : Nat} {c : Int} (h : Ab v i u1 v.length u c) (hu : Dig 4294967296 u1) (ht : i + v.length < u1.length) :
    Ch u1 (u.set (i + v.length) ((u1.getD (i + v.length) 0 + c) % 4294967296)) i (i + v.length + 1) (4294967296 ^ i * val 4294967296 v - 4294967296 ^ (i + v.length + 1) * ((u1.getD (i + v.length) 0 + c) / 4294967296)) := by
  have ho := hu.at (i + v.length) (by omega)
  have c0 := h.c0
  have c1 := h.c1
  refine h.ch.set (by omega) ht (by omega) (by omega) ?_
  rw [List.take_of_length_le (Nat.le_refl _), Int.pow_succ]
  have hem := Int.emod_add_mul_ediv (u1.getD (i + v.length) 0 + c) 4294967296
  generalize (u1.getD (i + v.length) 0 + c) / 4294967296 = nc at *
  generalize (u1.getD (i + v.length) 0 + c) % 4294967296 = r at *
  generalize (4294967296 : Int) ^ i = P at *
  generalize (4294967296 : Int) ^ (i + v.length) = Q at *
  have : r = u1.getD (i + v.length) 0 + c - 4294967296 * nc := by omega
  subst this
  grind
theorem Ch.trans {u0 u1 u2 : List Int} {i t : Nat} {d e : Int} (h : Ch u0 u1 i t d) (k : Ch u1 u2 i t e) : Ch u0 u2 i t (d + e) :=
  ⟨k.len.trans h.len, k.dig, fun j hj => (k.low j hj).trans (h.low j hj), fun j hj => (k.high j hj).trans (h.high j hj), by rw [k.eq, h.eq]; omega⟩

theorem take_same {u0 u : List Int} {i : Nat} (hl : u.length = u0.length) (h : ∀ j, j < i → u.getD j 0 = u0.getD j 0) : u.take i = u0.take i := by
  apply List.ext_getElem?
  intro j
  by_cases hj : j < i
  · rw [List.getElem?_take, List.getElem?_take, if_pos hj, if_pos hj]
    by_cases hjl : j < u0.length
    · have := h j hj
      rw [List.getD_eq_getElem?_getD, List.getD_eq_getElem?_getD, List.getElem?_eq_getElem (by omega), List.getElem?_eq_getElem hjl] at this
      rw [List.getElem?_eq_getElem (by omega), List.getElem?_eq_getElem hjl]
      simpa using this
    · rw [List.getElem?_eq_none (by omega), List.getElem?_eq_none (by omega)]
  · rw [List.getElem?_take, List.getElem?_take, if_neg hj, if_neg hj]
/-- What the digits from i on have come to. -/
theorem Ch.drop {u0 u : List Int} {i m : Nat} {d : Int} (h : Ch u0 u i (i + m + 1) (4294967296 ^ i * d)) (hz : ∀ j, i + m < j → u0.getD j 0 = 0) :
    val 4294967296 (u.drop i) = val 4294967296 (u0.drop i) + d ∧ 0 ≤ val 4294967296 (u.drop i) ∧ val 4294967296 (u.drop i) < 4294967296 ^ (m + 1) := by
  have e := h.eq
  rw [val_drop_split 4294967296 u i, val_drop_split 4294967296 u0 i, take_same h.len h.low] at e
  have hp := pow_pos' (B := 4294967296) (by omega) i
  have e2 : 4294967296 ^ i * val 4294967296 (u.drop i) = 4294967296 ^ i * (val 4294967296 (u0.drop i) + d) := by rw [Int.mul_add]; omega
  refine ⟨Int.eq_of_mul_eq_mul_left (by omega) e2, val_nonneg (by omega) (h.dig.drop _), ?_⟩
  have hz2 : ∀ j, m + 1 ≤ j → (u.drop i).getD j 0 = 0 := fun j hj => by rw [getD_drop, h.high _ (by omega)]; exact hz _ (by omega)
  rw [← val_take_of_zero 4294967296 _ (m + 1) hz2]
  have h1 := val_lt (B := 4294967296) (by omega) ((h.dig.drop i).take (m + 1))
  have h2 := pow_mono (B := 4294967296) (by omega) (show ((u.drop i).take (m + 1)).length ≤ m + 1 by simp; omega)
  omega

/-- The round's end. -/
theorem KI.next {X : Int} {v : List Int} {p N i : Nat} {u out u2 : List Int} {T qs e : Int} (h : KI X v p N (i + 1) u out) (hv : Dv v p) (hR : Rd v p i u T qs) (hi : i + (p + 2) < N)
    (hc : Ch u u2 i (i + (p + 2) + 1) (4294967296 ^ i * (4294967296 ^ (p + 2 + 1) * e - qs * val 4294967296 v))) : KI X v p N i u2 (out.set i qs) := by
  obtain ⟨e1, e2, e3⟩ := hc.drop hR.high
  rw [← hR.eT] at e1
  have hlo := hR.lo
  have hhi := hR.hi
  have hV := hv.pos
  have hVl := hv.lt
  have hpm : (4294967296 : Int) ^ (p + 2 + 1) = 4294967296 ^ (p + 2) * 4294967296 := Int.pow_succ _ _
  have hpp := pow_pos' (B := 4294967296) (by omega) (p + 2)
  have hx : (qs + 1) * val 4294967296 v = qs * val 4294967296 v + val 4294967296 v := by grind
  have he : e = 0 := by
    rcases Int.lt_trichotomy e 0 with he | he | he
    · have : 4294967296 ^ (p + 2 + 1) * e ≤ 4294967296 ^ (p + 2 + 1) * (-1) := Int.mul_le_mul_of_nonneg_left (by omega) (by omega)
      omega
    · exact he
    · have : 4294967296 ^ (p + 2 + 1) * 1 ≤ 4294967296 ^ (p + 2 + 1) * e := Int.mul_le_mul_of_nonneg_left (by omega) (by omega)
      omega
  subst he
  rw [Int.mul_zero, Int.zero_sub] at e1
  have hEq := hc.eq
  rw [Int.mul_zero, Int.zero_sub] at hEq
  refine ⟨by rw [hc.len, h.lenu], by simp [h.leno], hc.dig, h.dout.set i hR.q0 (by have := hR.qB; omega), by omega, fun j hj => by rw [getD_set_ne _ _ _ _ (by omega)]; exact h.zero j (by omega), ?_⟩
  rw [h.eq, hEq, val_set _ _ _ _ (by rw [h.leno]; omega), h.zero i (by omega)]
  generalize (4294967296 : Int) ^ i = P at *
  grind
/-- No borrow: the guess was right. -/
theorem good_eq {v : List Int} {p i : Nat} {u u1 : List Int} {T qs q : Int} (hR : Rd v p i u T qs) (hv : Dv v p) (hg : Good qs q)
    (hc : Ch u u1 i (i + (p + 2) + 1) (4294967296 ^ i * (4294967296 ^ (p + 2 + 1) * 0 - q * val 4294967296 v))) : q = qs := by
  obtain ⟨e1, e2, e3⟩ := hc.drop hR.high
  rw [← hR.eT] at e1
  have h1 := hg.ge
  have h2 := hg.le
  have hhi := hR.hi
  rcases (show q = qs ∨ q = qs + 1 by omega) with h | h
  · exact h
  · rw [h] at e1; omega
theorem good_succ {v : List Int} {p i : Nat} {u u1 : List Int} {T qs q : Int} (hR : Rd v p i u T qs) (hv : Dv v p) (hg : Good qs q)
    (hc : Ch u u1 i (i + (p + 2) + 1) (4294967296 ^ i * (4294967296 ^ (p + 2 + 1) * 1 - q * val 4294967296 v))) : q - 1 = qs := by
  obtain ⟨e1, e2, e3⟩ := hc.drop hR.high
  rw [← hR.eT] at e1
  have h1 := hg.ge
  have h2 := hg.le
  have hlo := hR.lo
  rcases (show q = qs ∨ q = qs + 1 by omega) with h | h
  · rw [h] at e1; omega
  · omega

/-- The rest, shifted back: t digits of it (s: a power of two that divides the base). -/
structure Rs (u : List Int) (s : Int) (m t : Nat) (r : List Int) : Prop where
  len : r.length = m
  dig : Dig 4294967296 r
  zero : ∀ j, t ≤ j → r.getD j 0 = 0
  eq : s * val 4294967296 r = val 4294967296 (u.take t) - u.getD 0 0 % s + 4294967296 ^ t * (u.getD t 0 % s)
theorem Rs.start (u : List Int) (s : Int) (m : Nat) : Rs u s m 0 (List.replicate m 0) := ⟨by simp, Dig.zeros (by omega) _, fun j _ => getD_replicate _ _, by simp only [val_replicate, List.take_zero, val, Int.mul_zero]; omega⟩
theorem Rs.step {u : List Int} {s c : Int} {m t : Nat} {r : List Int} (h : Rs u s m t r) (hu : Dig 4294967296 u) (hs : 0 < s) (hc : 4294967296 = s * c) (ht : t < m) :
    Rs u s m (t + 1) (r.set t ((u.getD (t + 1) 0 * 4294967296 + u.getD t 0) / s % 4294967296)) := by
  have h1 := hu.at t (by omega)
  have h2 := hu.at (t + 1) (by omega)
  have hc0 : 0 < c := by
    rcases Int.lt_or_le 0 c with h | h
    · exact h
    · have := Int.mul_nonneg (show 0 ≤ s by omega) (show 0 ≤ -c by omega)
      rw [Int.mul_neg] at this
      omega
  refine ⟨by simp [h.len], h.dig.set t (by omega) (by omega), fun j hj => by rw [getD_set_ne _ _ _ _ (by omega)]; exact h.zero j (by omega), ?_⟩
  rw [val_set _ _ _ _ (by rw [h.len]; exact ht), h.zero t (Nat.le_refl _), Int.sub_zero, Int.mul_add, h.eq, val_take_any, Int.pow_succ]
  have k1 := Int.emod_add_mul_ediv (u.getD t 0) s
  have k2 := Int.emod_add_mul_ediv (u.getD (t + 1) 0) s
  have a0 := Int.emod_nonneg (u.getD t 0) (show s ≠ 0 by omega)
  have a1 := Int.emod_lt_of_pos (u.getD t 0) hs
  have b0 := Int.emod_nonneg (u.getD (t + 1) 0) (show s ≠ 0 by omega)
  have b1 := Int.emod_lt_of_pos (u.getD (t + 1) 0) hs
  have d0 : 0 ≤ u.getD t 0 / s := Int.ediv_nonneg h1.1 (by omega)
  have d1 : u.getD t 0 / s < c := Int.ediv_lt_of_lt_mul hs (by rw [Int.mul_comm]; omega)
  generalize u.getD t 0 % s = ra at *
  generalize u.getD (t + 1) 0 % s = rb at *
  generalize u.getD t 0 / s = qa at *
  generalize u.getD (t + 1) 0 / s = qb at *
  have e1 : (u.getD (t + 1) 0 * 4294967296 + u.getD t 0) / s = c * (rb + s * qb) + qa := by
    have hx : u.getD (t + 1) 0 * 4294967296 + u.getD t 0 = ra + s * (c * (rb + s * qb) + qa) := by rw [← k1, ← k2, hc]; grind
    rw [hx, Int.add_mul_ediv_left _ _ (by omega), Int.ediv_eq_zero_of_lt a0 a1]
    omega
  have e2 : (c * (rb + s * qb) + qa) % 4294967296 = c * rb + qa := by
    have hx : c * (rb + s * qb) + qa = c * rb + qa + 4294967296 * qb := by rw [hc]; grind
    rw [hx, Int.add_mul_emod_self_left]
    have hr : c * (rb + 1) ≤ c * s := Int.mul_le_mul_of_nonneg_left (by omega) (by omega)
    have hr0 : 0 ≤ c * rb := Int.mul_nonneg (by omega) b0
    rw [Int.mul_add, Int.mul_comm c s, ← hc] at hr
    exact Int.emod_eq_of_lt (by omega) (by omega)
  rw [e1, e2]
  have e3 : s * (4294967296 ^ t * (c * rb + qa)) = 4294967296 ^ t * (4294967296 * rb + s * qa) := by rw [hc]; grind
  rw [e3, ← k1]
  generalize (4294967296 : Int) ^ t = P at *
  grind
theorem Rs.stop {u : List Int} {s : Int} {m : Nat} {r : List Int} (h : Rs u s m m r) (hz : ∀ j, m ≤ j → u.getD j 0 = 0) (h0 : u.getD 0 0 % s = 0) : s * val 4294967296 r = val 4294967296 u := by
  rw [h.eq, hz m (Nat.le_refl _), h0, val_take_of_zero _ _ _ hz]
  simp
end Go.Proofs.Ytjmbpeniibdnoaa
