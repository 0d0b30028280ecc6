/- Echelon forms: there is one only, and its entries are small: plain law. -/
import Derived.Test.YtjmbpeniibdnoaaLinMath
set_option linter.unusedVariables false
set_option linter.unusedSimpArgs false
namespace Go.Proofs.Ytjmbpeniibdnoaa

/-- Integers without a common divisor. -/
def Pm (a : Vc) : Prop := ∃ z : Nat → Int, (∀ k, a k = (z k : Rat)) ∧ ∀ g : Int, (∀ k, g ∣ z k) → g ∣ 1
theorem int_one {u : Int} (h : 0 < u) (hd : u ∣ 1) : u = 1 := by
  have := Int.le_of_dvd (by omega) hd
  omega
theorem cop_dvd {u v x : Int} (hc : Int.gcd u v = 1) (h : u ∣ v * x) : u ∣ x := by
  have h1 : u.natAbs ∣ v.natAbs * x.natAbs := by rw [← Int.natAbs_mul]; exact Int.natAbs_dvd_natAbs.2 h
  have h2 : Nat.Coprime u.natAbs v.natAbs := hc
  exact Int.natAbs_dvd_natAbs.1 (h2.dvd_of_dvd_mul_left h1)
theorem Pm.eq {a b : Vc} (ha : Pm a) (hb : Pm b) {s : Nat} (h1 : 0 < a s) (h2 : 0 < b s) (h : ∀ k, b k * a s = b s * a k) : a = b := by
  obtain ⟨x, hx, px⟩ := ha
  obtain ⟨y, hy, py⟩ := hb
  rw [hx s] at h1
  rw [hy s] at h2
  have e : ∀ k, y k * x s = y s * x k := fun k => by
    have := h k
    rw [hx, hx, hy, hy, ← Rat.intCast_mul, ← Rat.intCast_mul, Rat.intCast_inj] at this
    exact this
  have p1 : 0 < x s := by
    have := Rat.intCast_lt_intCast (a := 0) (b := x s)
    exact this.1 h1
  have p2 : 0 < y s := by
    have := Rat.intCast_lt_intCast (a := 0) (b := y s)
    exact this.1 h2
  have hg : 0 < Int.gcd (x s) (y s) := Int.gcd_pos_of_ne_zero_left _ (by omega)
  obtain ⟨u, hu⟩ := Int.gcd_dvd_left (a := x s) (b := y s)
  obtain ⟨v, hv⟩ := Int.gcd_dvd_right (a := x s) (b := y s)
  have hc : Int.gcd u v = 1 := by
    have h3 := Int.gcd_mul_left (Int.gcd (x s) (y s) : Int) u v
    rw [← hu, ← hv, Int.natAbs_natCast] at h3
    have : Int.gcd (x s) (y s) * Int.gcd u v = Int.gcd (x s) (y s) * 1 := by omega
    exact Nat.eq_of_mul_eq_mul_left hg this
  generalize Int.gcd (x s) (y s) = g at *
  have hgz : (g : Int) ≠ 0 := by omega
  have e2 : ∀ k, y k * u = v * x k := fun k => by
    have := e k
    rw [hu, hv] at this
    have h4 : (g : Int) * (y k * u) = g * (v * x k) := by grind
    exact Int.eq_of_mul_eq_mul_left hgz h4
  have u1 : u ∣ 1 := px u fun k => cop_dvd hc (show u ∣ v * x k from ⟨y k, by rw [← e2 k, Int.mul_comm]⟩)
  have v1 : v ∣ 1 := py v fun k => cop_dvd (by rw [Int.gcd_comm]; exact hc) (show v ∣ u * y k from ⟨x k, by rw [Int.mul_comm u, e2 k]⟩)
  have pu : 0 < u := by
    rw [hu] at p1
    exact Int.pos_of_mul_pos_right p1 (by omega)
  have pv : 0 < v := by
    rw [hv] at p2
    exact Int.pos_of_mul_pos_right p2 (by omega)
  have := int_one pu u1
  have := int_one pv v1
  subst u v
  funext k
  rw [hx, hy]
  have := e2 k
  simp at this
  rw [this]
theorem zip_ext {S : List Nat} {R R' : List Vc} (h1 : R.length = S.length) (h2 : R'.length = S.length) (h : ∀ s a b, (a, s) ∈ R.zip S → (b, s) ∈ R'.zip S → a = b) : R = R' := by
  induction S generalizing R R' with
  | nil => cases R with
    | nil => cases R' with
      | nil => rfl
      | cons _ _ => simp at h2
    | cons _ _ => simp at h1
  | cons s S ih => cases R with
    | nil => simp at h1
    | cons a R => cases R' with
      | nil => simp at h2
      | cons b R' =>
        rw [h s a b (by simp) (by simp)]
        rw [ih (R := R) (R' := R') (by simpa using h1) (by simpa using h2) fun t c d hc hd => h t c d (by rw [List.zip_cons_cons]; exact List.mem_cons_of_mem _ hc) (by rw [List.zip_cons_cons]; exact List.mem_cons_of_mem _ hd)]
/-- The echelon form of a list of rows: n variables. -/
def Ech (n : Nat) (L R : List Vc) : Prop := ∃ S : List Nat, Shp R S ∧ Lds R S ∧ S.Pairwise (· < ·) ∧ (∀ s ∈ S, s < n) ∧ (∀ a s, (a, s) ∈ R.zip S → Pm a ∧ 0 < a s) ∧ ∀ v, Sp R v ↔ Sp L v
theorem Ech.eq {n : Nat} {L R R' : List Vc} (h : Ech n L R) (h' : Ech n L R') : R = R' := by
  obtain ⟨S, h1, h2, h3, h4, h5, h6⟩ := h
  obtain ⟨S', k1, k2, k3, k4, k5, k6⟩ := h'
  have e : S = S' := asc_ext h3 k3 fun s => by
    constructor
    · intro hs
      obtain ⟨a, ha⟩ := h1.pivot hs
      exact k1.lead k2 ((k6 a).2 ((h6 a).1 (Sp.mem (h1.at ha).1))) (h2 a s ha)
    · intro hs
      obtain ⟨a, ha⟩ := k1.pivot hs
      exact h1.lead h2 ((h6 a).2 ((k6 a).1 (Sp.mem (k1.at ha).1))) (k2 a s ha)
  subst e
  refine zip_ext h1.len k1.len fun s a b ha hb => ?_
  obtain ⟨p1, p2⟩ := h5 a s ha
  obtain ⟨q1, q2⟩ := k5 b s hb
  refine p1.eq q1 p2 q2 fun k => ?_
  have h7 := h1.par ha ((h6 b).2 ((k6 b).1 (Sp.mem (k1.at hb).1))) (k1.at hb).2.2.2
  have h8 := congrFun h7 k
  rw [h8]
  have h9 : a s ≠ 0 := (h1.at ha).2.2.1
  have : b s / a s * a s = b s := Rat.div_mul_cancel h9
  grind
end Go.Proofs.Ytjmbpeniibdnoaa
