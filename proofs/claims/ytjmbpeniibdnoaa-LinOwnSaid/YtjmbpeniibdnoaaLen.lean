/- math/bits: Len32, LeadingZeros32. -/
import Derived.Test.YtjmbpeniibdnoaaInt4
set_option linter.unusedVariables false
set_option linter.unusedSimpArgs false
namespace Go.Proofs.Ytjmbpeniibdnoaa
open Go.RowKit

set_option maxRecDepth 100000 in
abbrev lenTab : ByteArray := ⟨#[0, 1, 2, 2, 3, 3, 3, 3, 4, 4, 4, 4, 4, 4, 4, 4, 5, 5, 5, 5, 5, 5, 5, 5, 5, 5, 5, 5, 5, 5, 5, 5, 6, 6, 6, 6, 6, 6, 6, 6, 6, 6, 6, 6, 6, 6, 6, 6, 6, 6, 6, 6, 6, 6, 6, 6, 6, 6, 6, 6, 6, 6, 6, 6, 7, 7, 7, 7, 7, 7, 7, 7, 7, 7, 7, 7, 7, 7, 7, 7, 7, 7, 7, 7, 7, 7, 7, 7, 7, 7, 7, 7, 7, 7, 7, 7, 7, 7, 7, 7, 7, 7, 7, 7, 7, 7, 7, 7, 7, 7, 7, 7, 7, 7, 7, 7, 7, 7, 7, 7, 7, 7, 7, 7, 7, 7, 7, 7, 8, 8, 8, 8, 8, 8, 8, 8, 8, 8, 8, 8, 8, 8, 8, 8, 8, 8, 8, 8, 8, 8, 8, 8, 8, 8, 8, 8, 8, 8, 8, 8, 8, 8, 8, 8, 8, 8, 8, 8, 8, 8, 8, 8, 8, 8, 8, 8, 8, 8, 8, 8, 8, 8, 8, 8, 8, 8, 8, 8, 8, 8, 8, 8, 8, 8, 8, 8, 8, 8, 8, 8, 8, 8, 8, 8, 8, 8, 8, 8, 8, 8, 8, 8, 8, 8, 8, 8, 8, 8, 8, 8, 8, 8, 8, 8, 8, 8, 8, 8, 8, 8, 8, 8, 8, 8, 8, 8, 8, 8, 8, 8, 8, 8, 8, 8, 8, 8, 8, 8, 8, 8, 8, 8, 8, 8, 8, 8]⟩
set_option maxRecDepth 100000 in
theorem lenTab_spec : ∀ j : Fin 256, lenTab.data[j.val]!.toNat ≤ 8 ∧ j.val < 2 ^ lenTab.data[j.val]!.toNat ∧ (0 < j.val → 2 ^ (lenTab.data[j.val]!.toNat - 1) ≤ j.val) := by decide +kernel
set_option maxRecDepth 100000 in
theorem lenTab_at (j : Nat) (h : j < lenTab.size) : lenTab[j].toNat ≤ 8 ∧ j < 2 ^ lenTab[j].toNat ∧ (0 < j → 2 ^ (lenTab[j].toNat - 1) ≤ j) := by
  have h2 : j < 256 := h
  have := lenTab_spec ⟨j, h2⟩
  have e : lenTab.data[j]! = lenTab[j] := by
    have h3 : j < lenTab.data.size := h
    rw [getElem!_pos lenTab.data j h3]; rfl
  simpa only [e] using this

/-- The number of bits. -/
def IsLen (x : Int) (r : Nat) : Prop := r ≤ 32 ∧ x < 2 ^ r ∧ (0 < x → 0 < r ∧ (2 : Int) ^ (r - 1) ≤ x)
theorem isLen_of {x : Int} {j k d : Nat} {n : Nat} (hd : d = 2 ^ k) (hj : (j : Int) = x / d) (h0 : 0 ≤ x) (hk : k + n ≤ 32) (h1 : j < 2 ^ n) (h2 : 0 < j → 2 ^ (n - 1) ≤ j) (h3 : 0 < j) : IsLen x (k + n) := by
  subst hd
  have hp : 0 < 2 ^ k := Nat.two_pow_pos k
  obtain ⟨x, rfl⟩ := Int.eq_ofNat_of_zero_le h0
  have hj' : j = x / 2 ^ k := by exact_mod_cast hj
  have hn : 0 < n := by
    rcases Nat.eq_zero_or_pos n with h | h
    · rw [h] at h1; simp at h1; omega
    · exact h
  refine ⟨hk, ?_, fun _ => ⟨by omega, ?_⟩⟩
  · have : x < 2 ^ (k + n) := by
      rw [Nat.pow_add, Nat.mul_comm]
      rw [hj'] at h1
      exact (Nat.div_lt_iff_lt_mul hp).1 h1
    exact_mod_cast this
  · have : 2 ^ (k + n - 1) ≤ x := by
      rw [show k + n - 1 = (n - 1) + k by omega, Nat.pow_add]
      have := h2 h3
      rw [hj'] at this
      exact (Nat.le_div_iff_mul_le hp).1 this
    exact_mod_cast this

theorem len_key (k n : Nat) (h : n ≤ 8) (hk : k ≤ 24) : wrap64 ((k : Int) + wrap64 (n : Int)) = ((k + n : Nat) : Int) := by unfold wrap64; omega

theorem len_key0 (n : Nat) (h : n ≤ 8) : wrap64 (wrap64 (n : Int)) = ((0 + n : Nat) : Int) := by unfold wrap64; omega

set_option maxHeartbeats 800000 in
set_option maxRecDepth 100000 in
theorem len32_calls (x : Int) (w : World) (h0 : 0 < x) (h1 : x < 4294967296) :
    Calls Try.prog 91 #[.int .u32 x] w fun e w' => ∃ r : Nat, e = .returned (.int .i64 r) ∧ IsLen x r ∧ w' = w := by
  by_cases h2 : 65536 ≤ x
  · by_cases h3 : 256 ≤ x / 65536
    · obtain ⟨t1, t2, t3⟩ := lenTab_at (x / 65536 / 256).toNat (show _ < 256 by omega)
      have hL := Lib.hid (isLen_of (x := x) (k := 24) (d := 16777216) rfl (by omega) (by omega) (by omega) t2 t3 (by omega))
      have hk := Lib.hid (len_key 24 _ t1 (by omega))
      clear t1 t2 t3
      go_enter Try.func91, Try.ntmps91
      go_wp2
      go_ret
      exact ⟨_, congrArg (fun z => Ending.returned (.int .i64 z)) hk.out, hL.out, rfl⟩
    · obtain ⟨t1, t2, t3⟩ := lenTab_at (x / 65536).toNat (show _ < 256 by omega)
      have hL := Lib.hid (isLen_of (x := x) (k := 16) (d := 65536) rfl (by omega) (by omega) (by omega) t2 t3 (by omega))
      have hk := Lib.hid (len_key 16 _ t1 (by omega))
      clear t1 t2 t3
      have hm : x / 65536 % 256 = x / 65536 := by omega
      go_enter Try.func91, Try.ntmps91
      go_wp2
      go_ret
      exact ⟨_, congrArg (fun z => Ending.returned (.int .i64 z)) hk.out, hL.out, rfl⟩
  · by_cases h3 : 256 ≤ x
    · obtain ⟨t1, t2, t3⟩ := lenTab_at (x / 256).toNat (show _ < 256 by omega)
      have hL := Lib.hid (isLen_of (x := x) (k := 8) (d := 256) rfl (by omega) (by omega) (by omega) t2 t3 (by omega))
      have hk := Lib.hid (len_key 8 _ t1 (by omega))
      clear t1 t2 t3
      have hm : x / 256 % 256 = x / 256 := by omega
      go_enter Try.func91, Try.ntmps91
      go_wp2
      go_ret
      exact ⟨_, congrArg (fun z => Ending.returned (.int .i64 z)) hk.out, hL.out, rfl⟩
    · obtain ⟨t1, t2, t3⟩ := lenTab_at x.toNat (show _ < 256 by omega)
      have hL := Lib.hid (isLen_of (x := x) (k := 0) (d := 1) rfl (by omega) (by omega) (by omega) t2 t3 (by omega))
      have hk := Lib.hid (len_key0 _ t1)
      clear t1 t2 t3
      have hm : x % 256 = x := by omega
      go_enter Try.func91, Try.ntmps91
      go_wp2
      go_ret
      exact ⟨_, congrArg (fun z => Ending.returned (.int .i64 z)) hk.out, hL.out, rfl⟩

theorem lead_of {x : Int} {r : Nat} (h : IsLen x r) (h0 : 0 < x) : ((32 - r : Nat) : Int) = 32 - (r : Int) ∧ 32 - r < 32 ∧ 2147483648 ≤ x * 2 ^ (32 - r) ∧ x * 2 ^ (32 - r) < 4294967296 := by
  obtain ⟨h1, h2, h3⟩ := h
  obtain ⟨h4, h5⟩ := h3 h0
  have hp : (0 : Int) < 2 ^ (32 - r) := Int.pow_pos (by omega)
  have e1 : (2 : Int) ^ (r - 1) * 2 ^ (32 - r) = 2147483648 := by rw [← Int.pow_add, show r - 1 + (32 - r) = 31 by omega]; rfl
  have e2 : (2 : Int) ^ r * 2 ^ (32 - r) = 4294967296 := by rw [← Int.pow_add, show r + (32 - r) = 32 by omega]; rfl
  refine ⟨by omega, by omega, ?_, ?_⟩
  · rw [← e1]; exact Int.mul_le_mul_of_nonneg_right h5 (by omega)
  · rw [← e2]; exact Int.mul_lt_mul_of_pos_right h2 hp

set_option maxHeartbeats 800000 in
theorem leading_calls (x : Int) (w : World) (h0 : 0 < x) (h1 : x < 4294967296) :
    Calls Try.prog 87 #[.int .u32 x] w fun e w' => ∃ s : Nat, e = .returned (.int .i64 s) ∧ s < 32 ∧ 2147483648 ≤ x * 2 ^ s ∧ x * 2 ^ s < 4294967296 ∧ w' = w := by
  go_enter Try.func87, Try.ntmps87
  go_wp2_with fail
  refine (len32_calls x _ h0 h1).mono ?_
  rintro e w' ⟨r, rfl, hL, rfl⟩
  have hr := hL.1
  have hs := Lib.hid (lead_of hL h0)
  clear hL
  go_wp2
  go_ret
  exact ⟨32 - r, by rw [hs.out.1]; rfl, hs.out.2.1, hs.out.2.2.1, hs.out.2.2.2, rfl⟩
end Go.Proofs.Ytjmbpeniibdnoaa
