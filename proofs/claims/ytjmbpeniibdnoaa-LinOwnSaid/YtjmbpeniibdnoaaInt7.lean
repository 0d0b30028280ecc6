/- math/bits.Mul64; exact: Mul. -/
import Derived.Test.YtjmbpeniibdnoaaInt6
set_option linter.unusedVariables false
set_option linter.unusedSimpArgs false
namespace Go.Proofs.Ytjmbpeniibdnoaa
open Go.RowKit

theorem mul_bounds {a b : Int} (a0 : 0 ≤ a) (a1 : a ≤ 4294967295) (b0 : 0 ≤ b) (b1 : b ≤ 4294967295) : 0 ≤ a * b ∧ a * b ≤ 18446744065119617025 :=
  ⟨Int.mul_nonneg a0 b0, Int.le_trans (Int.mul_le_mul_of_nonneg_right a1 b0) (by omega)⟩

set_option maxHeartbeats 800000 in
theorem mul64_calls (x y : Int) (w : World) (hx0 : 0 ≤ x) (hx1 : x < 18446744073709551616) (hy0 : 0 ≤ y) (hy1 : y < 18446744073709551616) :
    Calls Try.prog 81 #[.int .u64 x, .int .u64 y] w fun e w' => e = .returned (.tuple #[.int .u64 (x * y / 18446744073709551616), .int .u64 (x * y % 18446744073709551616)]) ∧ w' = w := by
  have M1 := mask32 x hx0 hx1
  have M2 := mask32 y hy0 hy1
  have X0 : 0 ≤ x % 4294967296 ∧ x % 4294967296 ≤ 4294967295 := by omega
  have X1 : 0 ≤ x / 4294967296 ∧ x / 4294967296 ≤ 4294967295 := by omega
  have Y0 : 0 ≤ y % 4294967296 ∧ y % 4294967296 ≤ 4294967295 := by omega
  have Y1 : 0 ≤ y / 4294967296 ∧ y / 4294967296 ≤ 4294967295 := by omega
  have hx : x = x / 4294967296 * 4294967296 + x % 4294967296 := by omega
  have hy : y = y / 4294967296 * 4294967296 + y % 4294967296 := by omega
  generalize e1 : x % 4294967296 = x0 at *
  generalize e2 : x / 4294967296 = x1 at *
  generalize e3 : y % 4294967296 = y0 at *
  generalize e4 : y / 4294967296 = y1 at *
  have p00 := mul_bounds X0.1 X0.2 Y0.1 Y0.2
  have p10 := mul_bounds X1.1 X1.2 Y0.1 Y0.2
  have p01 := mul_bounds X0.1 X0.2 Y1.1 Y1.2
  have p11 := mul_bounds X1.1 X1.2 Y1.1 Y1.2
  have hxy : x * y = x1 * y1 * 18446744073709551616 + (x1 * y0 + x0 * y1) * 4294967296 + x0 * y0 := by rw [hx, hy]; grind
  have hxy' := Lib.hid hxy
  clear hx hy hxy
  have T := mask32 (x1 * y0 + x0 * y0 / 4294967296) (by omega) (by omega)
  have W : IntKind.u64.wrap (x * y) = x * y % 18446744073709551616 := IntKind.wrap_u64 _
  have HI : x1 * y1 + (x1 * y0 + x0 * y0 / 4294967296) / 4294967296 + ((x1 * y0 + x0 * y0 / 4294967296) % 4294967296 + x0 * y1) / 4294967296 = x * y / 18446744073709551616 := by rw [hxy'.out]; omega
  have HU : x1 * y1 + (x1 * y0 + x0 * y0 / 4294967296) / 4294967296 + ((x1 * y0 + x0 * y0 / 4294967296) % 4294967296 + x0 * y1) / 4294967296 < 18446744073709551616 := by
    rw [HI]
    have := hxy'.out
    omega
  have HI' := Lib.hid HI
  clear HI
  generalize ez : x * y = z at *
  generalize e00 : x0 * y0 = q00 at *
  generalize e10 : x1 * y0 = q10 at *
  generalize e01 : x0 * y1 = q01 at *
  generalize e11 : x1 * y1 = q11 at *
  go_enter Try.func81, Try.ntmps81
  go_wp2
  go_ret2
  exact ⟨by rw [← HI'.out]; rfl, rfl⟩
end Go.Proofs.Ytjmbpeniibdnoaa
