/- The simplest number between two numbers: plain law. -/
import Derived.Test.YtmeldkceajnobaaDoorMath
set_option linter.unusedVariables false
set_option linter.unusedSimpArgs false
namespace Go.Proofs.YtmeldkceajnobaaDoor

theorem rat_sub_int (c : Rat) (n : Int) : (c - (n : Rat)).num = c.num - n * c.den ∧ (c - (n : Rat)).den = c.den := by
  have hg : c.den.gcd (c.num - n * c.den).natAbs = 1 := by
    have h1 : Int.gcd (c.num - n * c.den) c.den = 1 := by
      rw [Int.gcd_sub_mul_right_left]
      exact c.reduced
    rw [Nat.gcd_comm]; exact h1
  have e : c - (n : Rat) = mkRat (c.num - n * c.den) c.den := by rw [Rat.sub_def']; simp
  rw [e, Rat.num_mkRat, Rat.den_mkRat, if_neg c.den_nz, if_neg c.den_nz, hg]
  simp
theorem simp_add_int (c : Rat) (n : Int) : ((n : Rat) + c).num = n * c.den + c.num ∧ ((n : Rat) + c).den = c.den := by
  have := rat_sub_int c (-n)
  have e : c - ((-n : Int) : Rat) = (n : Rat) + c := by rw [Rat.intCast_neg, Rat.sub_eq_add_neg, Rat.neg_neg, Rat.add_comm]
  rw [e] at this
  refine ⟨?_, this.2⟩
  rw [this.1, Int.neg_mul]; omega
theorem rat_inv (c : Rat) (h : 0 < c.num) : (1 / c).num = c.den ∧ ((1 / c).den : Int) = c.num := by
  rw [Rat.div_def, Rat.one_mul, Rat.num_inv, Rat.den_inv, if_neg (by omega), Int.sign_eq_one_of_pos h]
  omega

/-- The recursion that the program and the reference share. -/
inductive Simp : Rat → Rat → Rat → Prop
  | whole (a b : Rat) (h : ((a.floor : Int) : Rat) = a) : Simp a b ((a.floor : Int) : Rat)
  | next (a b : Rat) (h : ((a.floor : Int) : Rat) ≠ a) (h2 : ((a.floor : Int) : Rat) + 1 ≤ b) : Simp a b (((a.floor : Int) : Rat) + 1)
  | deep (a b x : Rat) (h : ((a.floor : Int) : Rat) ≠ a) (h2 : ¬ ((a.floor : Int) : Rat) + 1 ≤ b) (h3 : Simp (1 / (b - ((a.floor : Int) : Rat))) (1 / (a - ((a.floor : Int) : Rat))) x) : Simp a b (((a.floor : Int) : Rat) + 1 / x)
theorem Simp.unique {a b x y : Rat} (h : Simp a b x) (k : Simp a b y) : x = y := by
  induction h generalizing y with
  | whole a b h => cases k with
    | whole => rfl
    | next _ _ h' => exact absurd h h'
    | deep _ _ _ h' => exact absurd h h'
  | next a b h h2 => cases k with
    | whole _ _ h' => exact absurd h' h
    | next => rfl
    | deep _ _ _ _ h' => exact absurd h2 h'
  | deep a b x h h2 h3 ih => cases k with
    | whole _ _ h' => exact absurd h' h
    | next _ _ _ h' => exact absurd h' h2
    | deep _ _ x' _ _ h' => rw [ih h']

/-- The facts at a number that is no integer. -/
theorem frac_facts (a : Rat) (h : ((a.floor : Int) : Rat) ≠ a) : a.floor * a.den < a.num ∧ a.num < (a.floor + 1) * a.den := by
  have h1 := Rat.floor_le a
  have h2 := Rat.lt_floor_add_one a
  have h3 : ((a.floor : Int) : Rat) < a := Rat.lt_of_le_of_ne h1 h
  rw [Rat.lt_iff, Rat.num_intCast, Rat.den_intCast] at h2 h3
  omega
theorem next_facts (a b : Rat) : ((a.floor : Int) : Rat) + 1 ≤ b ↔ (a.floor + 1) * b.den ≤ b.num := by
  have : ((a.floor : Int) : Rat) + 1 = ((a.floor + 1 : Int) : Rat) := by rw [Rat.intCast_add]; rfl
  rw [this, Rat.le_iff, Rat.num_intCast, Rat.den_intCast]
  omega
theorem floor_nonneg (a : Rat) (h : 0 ≤ a.num) : 0 ≤ a.floor := by
  rw [Rat.floor_def]
  exact Int.ediv_nonneg h (by omega)
theorem den_pos' (a : Rat) : (0 : Int) < a.den := by have := a.den_pos; omega

/-- What the deep step hands on: numerators and denominators. -/
theorem deep_step (a b : Rat) (h : ((a.floor : Int) : Rat) ≠ a) (h2 : ¬ ((a.floor : Int) : Rat) + 1 ≤ b) (h0 : 0 ≤ a.num) (hab : a ≤ b) (c : Rat) (hac : a ≤ c) (hcb : c ≤ b) :
    a.floor * c.den < c.num ∧ c.num < (a.floor + 1) * c.den ∧ (1 / (c - ((a.floor : Int) : Rat))).num = c.den ∧ ((1 / (c - ((a.floor : Int) : Rat))).den : Int) = c.num - a.floor * c.den := by
  have f1 := frac_facts a h
  rw [next_facts] at h2
  have hfl := floor_nonneg a h0
  generalize a.floor = n at *
  rw [Rat.le_iff] at hac hcb
  have da := den_pos' a
  have db := den_pos' b
  have dc := den_pos' c
  have k1 : n * c.den < c.num := by
    have : n * a.den * c.den < a.num * c.den := Int.mul_lt_mul_of_pos_right f1.1 dc
    have : n * c.den * a.den < c.num * a.den := by grind
    exact Int.lt_of_mul_lt_mul_right this (by omega)
  have k2 : c.num < (n + 1) * c.den := by
    have : b.num * c.den < (n + 1) * b.den * c.den := Int.mul_lt_mul_of_pos_right (by omega) dc
    have : c.num * b.den < (n + 1) * c.den * b.den := by grind
    exact Int.lt_of_mul_lt_mul_right this (by omega)
  have s := rat_sub_int c n
  have hp : 0 < (c - (n : Rat)).num := by rw [s.1]; omega
  have i := rat_inv _ hp
  exact ⟨k1, k2, by rw [i.1, s.2], by rw [i.2, s.1]⟩

theorem deep_le (a b : Rat) (n : Int) (c d : Rat) (hc : n * c.den < c.num) (hcd : c ≤ d) : 1 / (d - (n : Rat)) ≤ 1 / (c - (n : Rat)) := by
  rw [Rat.le_iff] at hcd
  have dc := den_pos' c
  have dd := den_pos' d
  have k1 : n * d.den < d.num := by
    have : n * c.den * d.den < c.num * d.den := Int.mul_lt_mul_of_pos_right hc dd
    have : n * d.den * c.den < d.num * c.den := by grind
    exact Int.lt_of_mul_lt_mul_right this (by omega)
  have s := rat_sub_int c n
  have t := rat_sub_int d n
  have i := rat_inv (c - (n : Rat)) (by rw [s.1]; omega)
  have j := rat_inv (d - (n : Rat)) (by rw [t.1]; omega)
  rw [Rat.le_iff, i.1, j.1, i.2, j.2, s.1, s.2, t.1, t.2]
  grind

/-- The least numerator and denominator. -/
theorem Simp.least {a b r : Rat} (h : Simp a b r) (h0 : 0 ≤ a.num) (hab : a ≤ b) :
    a ≤ r ∧ r ≤ b ∧ 0 ≤ r.num ∧ (0 < a.num → 0 < r.num) ∧ ∀ c : Rat, a ≤ c → c ≤ b → r.num ≤ c.num ∧ r.den ≤ c.den := by
  induction h with
  | whole a b h =>
    have hfl := floor_nonneg a h0
    rw [h]
    refine ⟨Rat.le_refl, hab, h0, fun e => e, fun c hac hcb => ?_⟩
    have dc := den_pos' c
    have hd : a.den = 1 := by rw [← h]; rfl
    have hn : a.num = a.floor := by conv => lhs; rw [← h]
                                    rfl
    rw [Rat.le_iff, hn, hd] at hac
    refine ⟨?_, by omega⟩
    rw [hn]
    have : a.floor * 1 ≤ a.floor * c.den := Int.mul_le_mul_of_nonneg_left (by omega) hfl
    omega
  | next a b h h2 =>
    have f1 := frac_facts a h
    have hfl := floor_nonneg a h0
    have e : ((a.floor : Int) : Rat) + 1 = ((a.floor + 1 : Int) : Rat) := by rw [Rat.intCast_add]; rfl
    rw [e] at h2 ⊢
    refine ⟨Rat.le_of_lt (Rat.lt_floor_add_one a), h2, by rw [Rat.num_intCast]; omega, fun _ => by rw [Rat.num_intCast]; omega, fun c hac hcb => ?_⟩
    have dc := den_pos' c
    have da := den_pos' a
    rw [Rat.le_iff] at hac
    simp only [Rat.num_intCast, Rat.den_intCast]
    refine ⟨?_, by omega⟩
    have k1 : a.floor * c.den < c.num := by
      have : a.floor * a.den * c.den < a.num * c.den := Int.mul_lt_mul_of_pos_right f1.1 dc
      have : a.floor * c.den * a.den < c.num * a.den := by grind
      exact Int.lt_of_mul_lt_mul_right this (by omega)
    have : a.floor * 1 ≤ a.floor * c.den := Int.mul_le_mul_of_nonneg_left (by omega) hfl
    omega
  | deep a b x h h2 h3 ih =>
    have hfl := floor_nonneg a h0
    have ka := deep_step a b h h2 h0 hab a Rat.le_refl hab
    have kb := deep_step a b h h2 h0 hab b hab Rat.le_refl
    have kall := deep_step a b h h2 h0 hab
    have hle := deep_le a b a.floor a b ka.1 hab
    have dL := fun c d hc hcd => deep_le a b a.floor c d hc hcd
    obtain ⟨i1, i2, i3, i4, i5⟩ := ih (by rw [kb.2.2.1]; omega) hle
    have hx0 : 0 < x.num := i4 (by rw [kb.2.2.1]; exact den_pos' b)
    have ix := rat_inv x hx0
    have rx := simp_add_int (1 / x) a.floor
    have dx := den_pos' x
    have da := den_pos' a
    have db := den_pos' b
    have hN : (((a.floor : Int) : Rat) + 1 / x).num = a.floor * x.num + x.den := by rw [rx.1, ix.1, ix.2]
    have hD : ((((a.floor : Int) : Rat) + 1 / x).den : Int) = x.num := by rw [rx.2, ix.2]
    rw [Rat.le_iff] at i1 i2
    rw [kb.2.2.1, kb.2.2.2] at i1
    rw [ka.2.2.1, ka.2.2.2] at i2
    have hnn : 0 ≤ a.floor * x.num := Int.mul_nonneg hfl (by omega)
    refine ⟨?_, ?_, by rw [hN]; omega, fun _ => by rw [hN]; omega, fun c hac hcb => ?_⟩
    · rw [Rat.le_iff, hN, hD]; grind
    · rw [Rat.le_iff, hN, hD]; grind
    · have kc := kall c hac hcb
      have dc := den_pos' c
      have l1 := dL c b kc.1 hcb
      have l2 := dL a c ka.1 hac
      have j := i5 _ l1 l2
      rw [kc.2.2.1] at j
      have j2 : (x.den : Int) ≤ c.num - a.floor * c.den := by rw [← kc.2.2.2]; omega
      have j3 : a.floor * x.num ≤ a.floor * c.den := Int.mul_le_mul_of_nonneg_left j.1 hfl
      refine ⟨by rw [hN]; omega, by omega⟩
end Go.Proofs.YtmeldkceajnobaaDoor
