/- Rationals: plain law, how a number lies in memory. -/
import Derived.Test.YtjmbpeniibdnoaaGcd
set_option linter.unusedVariables false
set_option linter.unusedSimpArgs false
namespace Go.Proofs.Ytjmbpeniibdnoaa
open Go.RowKit

/-- An integer as a result. -/
def IntR (e : Ending) (w : World) (x : Int) : Prop := ∃ (v : Int) (A : Option Addr) (n c : Nat), e = .returned (.agg #[.int .i64 v, .slice A n c]) ∧ IntV w v A n c x
/-- A rational: top and low; low may be the zero value for 1. -/
def RatV (w : World) (v : Int) (A : Option Addr) (n c : Nat) (v' : Int) (A' : Option Addr) (n' c' : Nat) (q : Rat) : Prop :=
  IntV w v A n c q.num ∧ ∃ z : Int, IntV w v' A' n' c' z ∧ (z = (q.den : Int) ∨ z = 0 ∧ q.den = 1)
def RatR (e : Ending) (w : World) (q : Rat) : Prop := ∃ (v : Int) (A : Option Addr) (n c : Nat) (v' : Int) (A' : Option Addr) (n' c' : Nat), e = .returned (.agg #[.int .i64 v, .slice A n c, .int .i64 v', .slice A' n' c']) ∧ RatV w v A n c v' A' n' c' q
theorem RatV.kp {w w' : World} {v : Int} {A : Option Addr} {n c : Nat} {v' : Int} {A' : Option Addr} {n' c' : Nat} {q : Rat} (h : RatV w v A n c v' A' n' c' q) (e : Kp 118 w w') : RatV w' v A n c v' A' n' c' q :=
  ⟨h.1.kp e, by obtain ⟨z, h1, h2⟩ := h.2; exact ⟨z, h1.kp e, h2⟩⟩
theorem RatV.below {w w' : World} {v : Int} {A : Option Addr} {n c : Nat} {v' : Int} {A' : Option Addr} {n' c' : Nat} {q : Rat} (h : RatV w v A n c v' A' n' c' q) (e : Below w.heap.size w w') : RatV w' v A n c v' A' n' c' q := h.kp (Kp.below e)
/-- The size of a rational. -/
def SzR (k : Nat) (q : Rat) : Prop := Sz k q.num ∧ Sz k (q.den : Int)
theorem SzR.mono {k l : Nat} {q : Rat} (h : SzR k q) (e : k ≤ l) : SzR l q := ⟨h.1.mono e, h.2.mono e⟩

theorem gcd_pos {x y : Int} (hy : y ≠ 0) : (0 : Int) < (Int.gcd x y : Int) := by
  have : 0 < Int.gcd x y := Int.gcd_pos_of_ne_zero_right _ hy
  omega
theorem divInt_num {x y : Int} (hy : y ≠ 0) : (Rat.divInt x y).num = y.sign * x.tdiv (Int.gcd x y) := by
  have hg := gcd_pos (x := x) hy
  rw [Rat.num_divInt, Int.gcd_comm y x]
  obtain ⟨k, hk⟩ := Int.gcd_dvd_left (a := x) (b := y)
  generalize (Int.gcd x y : Int) = g at *
  subst hk
  rw [Int.mul_tdiv_cancel_left _ (by omega), show y.sign * (g * k) = g * (y.sign * k) by grind, Int.mul_ediv_cancel_left _ (by omega)]
theorem divInt_den {x y : Int} (hy : y ≠ 0) : ((Rat.divInt x y).den : Int) = y.sign * y.tdiv (Int.gcd x y) := by
  have hg := gcd_pos (x := x) hy
  rw [Rat.den_divInt, if_neg hy, Int.gcd_comm y x]
  obtain ⟨k, hk⟩ := Int.gcd_dvd_right (a := x) (b := y)
  have hab : (y.natAbs : Int) = y.sign * y := by
    rcases Int.lt_trichotomy y 0 with h | h | h
    · rw [Int.sign_eq_neg_one_of_neg h]; omega
    · omega
    · rw [Int.sign_eq_one_of_pos h]; omega
  rw [Int.natCast_ediv, hab]
  generalize (Int.gcd x y : Int) = g at *
  rw [hk, Int.mul_tdiv_cancel_left _ (by omega), show (g * k).sign * (g * k) = g * ((g * k).sign * k) by grind, Int.mul_ediv_cancel_left _ (by omega)]
end Go.Proofs.Ytjmbpeniibdnoaa
