/- Plain mathematics: division by one digit, shifting. -/
import Derived.Test.YtjmbpeniibdnoaaMulMath
set_option linter.unusedVariables false
set_option linter.unusedSimpArgs false
namespace Go.Proofs.Ytjmbpeniibdnoaa

/-- Division by one digit: the digits from k on are done. -/
structure Short (B y : Int) (x : List Int) (k : Nat) (out : List Int) (r : Int) : Prop where
  r0 : 0 ≤ r
  r1 : r < y
  len : out.length = x.length
  dig : Dig B out
  eq : val B (x.drop k) = y * val B (out.drop k) + r
theorem Short.start {B y : Int} (hB : 0 < B) (hy : 0 < y) (x : List Int) : Short B y x x.length (List.replicate x.length 0) 0 :=
  ⟨by omega, hy, by simp, Dig.zeros hB _, by rw [List.drop_of_length_le (Nat.le_refl _), List.drop_of_length_le (by simp)]; simp [val]⟩
theorem Short.step {B y : Int} {x out : List Int} {k : Nat} {r : Int} (hB : 0 < B) (h : Short B y x (k + 1) out r) (hx : Dig B x) (hk : k < x.length) :
    Short B y x k (out.set k ((r * B + x.getD k 0) / y)) ((r * B + x.getD k 0) % y) := by
  have r0 := h.r0
  have r1 := h.r1
  have hd := hx.at k hB
  have n0 : 0 ≤ r * B := Int.mul_nonneg r0 (by omega)
  have hlt : (r * B + x.getD k 0) / y < B := by
    refine Int.ediv_lt_of_lt_mul (by omega) ?_
    have : (r + 1) * B ≤ y * B := Int.mul_le_mul_of_nonneg_right (by omega) (by omega)
    grind
  refine ⟨Int.emod_nonneg _ (by omega), Int.emod_lt_of_pos _ (by omega), by simp [h.len], h.dig.set _ (Int.ediv_nonneg (by omega) (by omega)) hlt, ?_⟩
  rw [set_drop _ _ _ (by rw [h.len]; exact hk), drop_getD x k hk]
  simp only [val]
  have e := h.eq
  have m := Int.emod_add_mul_ediv (r * B + x.getD k 0) y
  generalize (r * B + x.getD k 0) / y = q at *
  generalize (r * B + x.getD k 0) % y = s at *
  grind
theorem Short.stop {B y : Int} {x out : List Int} {r : Int} (h : Short B y x 0 out r) : val B x = y * val B out + r := by
  have := h.eq
  simpa using this

/-- Digits shifted to the left (a multiplication by p, which divides B). -/
structure Shl (B p : Int) (x : List Int) (i : Nat) (out : List Int) : Prop where
  len : out.length = x.length + 1
  dig : Dig B out
  low : out.getD i 0 < p
  zero : ∀ j, i < j → out.getD j 0 = 0
  eq : val B out = p * val B (x.take i)
theorem Shl.start {B p : Int} (hB : 0 < B) (hp : 0 < p) (x : List Int) : Shl B p x 0 (List.replicate (x.length + 1) 0) :=
  ⟨by simp, Dig.zeros hB _, by rw [getD_replicate]; exact hp, fun j _ => getD_replicate _ _, by simp [val, val_replicate]⟩
theorem Shl.step {B p : Int} {x out : List Int} {i : Nat} (hp : 0 < p) (hB : 0 < B) (hd : p ∣ B) (h : Shl B p x i out) (hx : Dig B x) (hi : i < x.length) :
    Shl B p x (i + 1) ((out.set i (out.getD i 0 + x.getD i 0 * p % B)).set (i + 1) (x.getD i 0 * p / B)) ∧ x.getD i 0 * p % B % p = 0 ∧ out.getD i 0 + x.getD i 0 * p % B < B := by
  have h1 := hx.at i hB
  have h2 := h.dig.at i hB
  have hl := h.low
  have n0 : 0 ≤ x.getD i 0 * p := Int.mul_nonneg h1.1 (by omega)
  have m0 : 0 ≤ x.getD i 0 * p % B := Int.emod_nonneg _ (by omega)
  have m1 : x.getD i 0 * p % B < B := Int.emod_lt_of_pos _ hB
  have d0 : 0 ≤ x.getD i 0 * p / B := Int.ediv_nonneg n0 (by omega)
  obtain ⟨c, hc⟩ := hd
  have hc0 : 0 < c := by
    rcases Int.lt_or_le 0 c with h | h
    · exact h
    · have := Int.mul_nonneg (show 0 ≤ p by omega) (show 0 ≤ -c by omega)
      rw [Int.mul_neg] at this
      omega
  have d1 : x.getD i 0 * p / B < p := Int.ediv_lt_of_lt_mul hB (by rw [Int.mul_comm p B]; exact Int.mul_lt_mul_of_pos_right h1.2 hp)
  have pB : p ≤ B := by
    have : p * 1 ≤ p * c := Int.mul_le_mul_of_nonneg_left (by omega) (by omega)
    omega
  have e2 : x.getD i 0 * p % B = p * (x.getD i 0 % c) := by
    rw [hc, Int.mul_comm (x.getD i 0) p, Int.mul_emod_mul_of_pos _ _ hp]
  have hm : x.getD i 0 * p % B % p = 0 := by rw [e2]; exact Int.mul_emod_right _ _
  have hs : out.getD i 0 + x.getD i 0 * p % B < B := by
    rw [e2]
    have : x.getD i 0 % c < c := Int.emod_lt_of_pos _ hc0
    have : p * (x.getD i 0 % c + 1) ≤ p * c := Int.mul_le_mul_of_nonneg_left (by omega) (by omega)
    rw [Int.mul_add, ← hc] at this
    omega
  refine ⟨⟨by simp [h.len], (h.dig.set i (by omega) hs).set (i + 1) d0 (by omega), ?_, ?_, ?_⟩, hm, hs⟩
  · rw [getD_set_eq _ _ _ (by simp [h.len]; omega)]; exact d1
  · intro j hj
    rw [getD_set_ne _ _ _ _ (by omega), getD_set_ne _ _ _ _ (by omega)]
    exact h.zero j (by omega)
  · rw [val_set _ _ _ _ (by simp [h.len]; omega), val_set _ _ _ _ (by simp [h.len]; omega), getD_set_ne _ _ _ _ (by omega), h.zero (i + 1) (by omega), h.eq, val_take_any, Int.pow_succ]
    have hem := Int.emod_add_mul_ediv (x.getD i 0 * p) B
    generalize x.getD i 0 * p / B = q at *
    generalize x.getD i 0 * p % B = r at *
    generalize B ^ i = P at *
    grind
theorem Shl.stop {B p : Int} {x out : List Int} (h : Shl B p x x.length out) : val B out = p * val B x := by
  rw [h.eq, List.take_of_length_le (Nat.le_refl _)]
end Go.Proofs.Ytjmbpeniibdnoaa
