/- Bits: the borrow of Sub32, two halves of a word, the product of two words. -/
import Derived.Test.YtjmbpeniibdnoaaMem
import Derived.Laws.BitsAllLaws
set_option linter.unusedVariables false
set_option linter.unusedSimpArgs false
namespace Go.Proofs.Ytjmbpeniibdnoaa
open Go.RowKit

theorem top_bit (n : Nat) (h : n < 4294967296) : n / 2147483648 = (n.testBit 31).toNat := by
  rw [Nat.testBit_eq_decide_div_mod_eq]
  by_cases c : n < 2147483648
  · rw [show n / 2147483648 = 0 by omega]; simp
  · rw [show n / 2147483648 = 1 by omega]; simp
theorem bit31 (n : Nat) (h : n < 4294967296) : n.testBit 31 = decide (2147483648 ≤ n) := by
  rw [Nat.testBit_eq_decide_div_mod_eq]
  by_cases c : n < 2147483648
  · rw [decide_eq_false (by simp; omega), decide_eq_false (by omega)]
  · rw [decide_eq_true (by simp; omega), decide_eq_true (by omega)]
theorem flip31 (x : Nat) (hx : x < 4294967296) : (4294967295 ^^^ x).testBit 31 = !decide (2147483648 ≤ x) := by
  rw [Nat.testBit_xor, bit31 x hx]
  have : Nat.testBit 4294967295 31 = true := by decide
  rw [this]; simp

theorem borrow (x y c : Int) (hx0 : 0 ≤ x) (hx1 : x < 4294967296) (hy0 : 0 ≤ y) (hy1 : y < 4294967296) (hc0 : 0 ≤ c) (hc1 : c ≤ 1) :
    bits BinOp.or IntKind.u32 (bits BinOp.and IntKind.u32 (bits BinOp.xor IntKind.u32 IntKind.u32.max x) y)
                (bits BinOp.and IntKind.u32
                  (bits BinOp.xor IntKind.u32 IntKind.u32.max (bits BinOp.xor IntKind.u32 x y))
                  ((x - y - c) % 4294967296)) /
              2147483648 = if x - y - c < 0 then 1 else 0 := by
  obtain ⟨x, rfl⟩ := Int.eq_ofNat_of_zero_le hx0
  obtain ⟨y, rfl⟩ := Int.eq_ofNat_of_zero_le hy0
  obtain ⟨d, hd⟩ := Int.eq_ofNat_of_zero_le (show 0 ≤ ((x : Int) - y - c) % 4294967296 by omega)
  have hd1 : d < 4294967296 := by omega
  have hm : IntKind.u32.max = ((4294967295 : Nat) : Int) := by decide
  have X : x < 2 ^ 32 := by omega
  have Y : y < 2 ^ 32 := by omega
  have M : 4294967295 < 2 ^ 32 := by omega
  have D : d < 2 ^ 32 := by omega
  have q1 : 4294967295 ^^^ x < 4294967296 := Nat.xor_lt_two_pow (n := 32) M X
  have q2 : x ^^^ y < 4294967296 := Nat.xor_lt_two_pow (n := 32) X Y
  have q3 : 4294967295 ^^^ (x ^^^ y) < 4294967296 := Nat.xor_lt_two_pow (n := 32) M q2
  have q4 : (4294967295 ^^^ x) &&& y < 4294967296 := Nat.and_lt_two_pow (n := 32) _ Y
  have q5 : (4294967295 ^^^ (x ^^^ y)) &&& d < 4294967296 := Nat.and_lt_two_pow (n := 32) _ D
  have q6 : ((4294967295 ^^^ x) &&& y) ||| ((4294967295 ^^^ (x ^^^ y)) &&& d) < 4294967296 := Nat.or_lt_two_pow (n := 32) q4 q5
  rw [hd, hm, u32_xor_nat _ _ (by omega) (by omega), u32_and_nat _ _ q1 (by omega), u32_xor_nat _ _ (by omega) (by omega), u32_xor_nat _ _ (by omega) q2, u32_and_nat _ _ q3 hd1, u32_or_nat _ _ q4 q5]
  rw [show (2147483648 : Int) = ((2147483648 : Nat) : Int) from rfl, ← Int.natCast_ediv, top_bit _ q6, Nat.testBit_or, Nat.testBit_and, Nat.testBit_and, flip31 x (by omega), flip31 _ q2, Nat.testBit_xor |> fun h => bit31 y (by omega), bit31 d hd1]
  have e : decide (2147483648 ≤ x ^^^ y) = Bool.xor (decide (2147483648 ≤ x)) (decide (2147483648 ≤ y)) := by
    rw [← bit31 _ q2, Nat.testBit_xor, bit31 x (by omega), bit31 y (by omega)]
  rw [e]
  by_cases a : 2147483648 ≤ x <;> by_cases b : 2147483648 ≤ y <;> by_cases f : 2147483648 ≤ d <;> simp [a, b, f] <;> omega

theorem join32 (h l : Int) (h0 : 0 ≤ h) (h1 : h < 4294967296) (l0 : 0 ≤ l) (l1 : l < 4294967296) : bits BinOp.or IntKind.u64 (h * 4294967296) l = h * 4294967296 + l := by
  obtain ⟨h, rfl⟩ := Int.eq_ofNat_of_zero_le h0
  obtain ⟨l, rfl⟩ := Int.eq_ofNat_of_zero_le l0
  rw [show (h : Int) * 4294967296 = ((h * 4294967296 : Nat) : Int) by simp, u64_or_nat _ _ (by omega) (by omega), nat_join 32 _ _ (by omega) (by omega)]
  simp
theorem join32' (h l : Int) (h0 : 0 ≤ h) (h1 : h < 4294967296) (l0 : 0 ≤ l) (l1 : l < 4294967296) : bits BinOp.or IntKind.u64 l (h * 4294967296) = h * 4294967296 + l := by
  obtain ⟨h, rfl⟩ := Int.eq_ofNat_of_zero_le h0
  obtain ⟨l, rfl⟩ := Int.eq_ofNat_of_zero_le l0
  rw [show (h : Int) * 4294967296 = ((h * 4294967296 : Nat) : Int) by simp, u64_or_nat _ _ (by omega) (by omega), Nat.or_comm, nat_join 32 _ _ (by omega) (by omega)]
  simp
theorem mask32 (x : Int) (h0 : 0 ≤ x) (h1 : x < 18446744073709551616) : bits BinOp.and IntKind.u64 x 4294967295 = x % 4294967296 := by
  obtain ⟨x, rfl⟩ := Int.eq_ofNat_of_zero_le h0
  rw [show (4294967295 : Int) = ((4294967295 : Nat) : Int) from rfl, u64_and_nat _ _ (by omega) (by omega)]
  have := Nat.and_two_pow_sub_one_eq_mod x 32
  rw [show (4294967295 : Nat) = 2 ^ 32 - 1 from rfl, this]
  simp
end Go.Proofs.Ytjmbpeniibdnoaa
