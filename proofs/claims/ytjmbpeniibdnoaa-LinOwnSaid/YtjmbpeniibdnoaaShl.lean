/- exact: shifted, short. -/
import Derived.Test.YtjmbpeniibdnoaaLen
import Derived.Test.YtjmbpeniibdnoaaDivMath
set_option linter.unusedVariables false
set_option linter.unusedSimpArgs false
namespace Go.Proofs.Ytjmbpeniibdnoaa
open Go.RowKit

set_option maxHeartbeats 800000 in
set_option maxRecDepth 100000 in
theorem short_calls (X1 : Option Addr) (n1 d1 : Nat) (xs : List Int) (y : Int) (w : World) (h1 : RdI w 118 .u32 X1 n1 xs) (k1 : Dig 4294967296 xs) (hn : n1 ≤ 1000000000) (hy0 : 0 < y) (hy1 : y < 4294967296) :
    Calls Try.prog 78 #[.slice X1 n1 d1, .int .u32 y] w fun e w' => ∃ (A : Option Addr) (n c : Nat) (ds : List Int) (r : Int), e = .returned (.tuple #[.slice A n c, .int .u32 r]) ∧ n ≤ c ∧ n = n1 ∧ RdI w' 118 .u32 A n ds ∧ Dig 4294967296 ds ∧ 0 ≤ r ∧ r < y ∧ val 4294967296 xs = y * val 4294967296 ds + r ∧ Below w.heap.size w w' := by
  have I := info_u32
  have HI := Lib.hid I
  have hid := Lib.hid k1
  have L1 := Lib.hid h1.1
  clear I k1
  have B0 := Below.refl w.heap.size w
  go_enter Try.func78, Try.ntmps78
  go_wp2_with (first | (at_make; refine make_num w.heap.size rfl _ _ 59 118 .u32 4 rfl Try.underlying59 HI.out _ _ _ _ n1 rfl rfl (by simp) (by simp) (by omega) (by omega) B0 (Nat.le_refl _) ?_; intro w3 hown HB3) | go_in)
  clear B0
  have hst := Short.start (B := 4294967296) (by omega) hy0 xs
  rw [L1.out] at hst
  go_loopw [7, 8] (fun r i wr => ∃ (k : Nat) (out : List Int) (rr : Int), k ≤ n1 ∧ i = .int .i64 ((k : Int) - 1) ∧ r = .int .u32 rr ∧ Short 4294967296 y xs k out rr ∧ wr.ownsRow w.heap.size 118 1 (.slice (some ⟨w.heap.size, 0, none⟩) n1 n1) n1 (ints .u32 out) ∧ Below w.heap.size w wr) (fun _ i _ => (intOf i + 1).toNat)
  case atStart => exact ⟨n1, _, 0, Nat.le_refl _, rfl, rfl, hst, hown, HB3⟩
  case round =>
    clear hst hown HB3
    obtain ⟨k, out, rr, hk, rfl, rfl, hS, ho, hB⟩ := hrel
    by_cases h0 : k = 0
    · subst h0
      have hst := Lib.hid hS.stop
      have r0 := hS.r0
      have r1 := hS.r1
      have hd := hS.dig
      obtain ⟨Ao, co, eo, hco, hro, _⟩ := RdI.own ho
      simp only [Value.slice.injEq] at eo
      obtain ⟨rfl, _, rfl⟩ := eo
      go_wp2
      go_ret2
      exact ⟨_, _, _, out, rr, rfl, hco, rfl, hro, hd, r0, r1, hst.out, hB⟩
    · obtain ⟨k, rfl⟩ : ∃ j, k = j + 1 := ⟨k - 1, by omega⟩
      have e1 : ((k + 1 : Nat) : Int) - 1 = (k : Int) := by omega
      rw [e1]
      clear e1 h0
      obtain ⟨g, off, rfl, lg, cg⟩ := h1.at_ (by omega)
      have cg1 : wr.cell? ⟨g, off + k, none⟩ = some (.int .u32 (xs.getD k 0)) := (hB.cell (p := ⟨g, off + k, none⟩) lg).trans (cg k (by omega))
      clear cg
      have r0 := hS.r0
      have r1 := hS.r1
      have hd := hid.out.at k (by omega)
      have hS2 := hS.step (by omega) hid.out (by rw [L1.out]; omega)
      generalize xs.getD k 0 = x at *
      go_wp2_with fail
      refine (div32_calls rr x y _ r0 r1 hd.1 hd.2 hy1).mono ?_
      rintro e w2 ⟨rfl, nd, rfl⟩
      generalize (rr * 4294967296 + x) / y = q at *
      generalize (rr * 4294967296 + x) % y = s at *
      have ho2 : (wr.drewN nd).ownsRow w.heap.size 118 1 (.slice (some ⟨w.heap.size, 0, none⟩) n1 n1) n1 (ints .u32 out) := ho
      obtain ⟨o1, o2⟩ := own_at ho2 k (by omega)
      obtain ⟨so, sb⟩ := own_set ho2 (bdrewN hB nd) (Nat.le_refl _) k q
      go_wp2_with fail
      go_roundw
      case rel => exact ⟨k, _, _, by omega, by go_num, rfl, hS2, so, sb⟩
      case measure => simp [intOf]

theorem or32_add (a b : Int) (s : Nat) (hs : s ≤ 32) (a0 : 0 ≤ a) (a1 : a < 2 ^ s) (b0 : 0 ≤ b) (b1 : b < 4294967296) (hb : b % 2 ^ s = 0) : bits BinOp.or IntKind.u32 a b = a + b := by
  obtain ⟨a, rfl⟩ := Int.eq_ofNat_of_zero_le a0
  obtain ⟨b, rfl⟩ := Int.eq_ofNat_of_zero_le b0
  have a2 : a < 2 ^ s := by exact_mod_cast a1
  have h2 : 2 ^ s ≤ 2 ^ 32 := Nat.pow_le_pow_right (by omega) hs
  have hb2 : b % 2 ^ s = 0 := by exact_mod_cast hb
  rw [u32_or_nat _ _ (by omega) (by omega), Nat.or_comm, nat_join s _ _ hb2 a2]
  omega

set_option maxHeartbeats 800000 in
set_option maxRecDepth 100000 in
theorem shifted_calls (X1 : Option Addr) (n1 d1 : Nat) (xs : List Int) (s : Nat) (w : World) (h1 : RdI w 118 .u32 X1 n1 xs) (k1 : Dig 4294967296 xs) (hn : n1 ≤ 1000000000) (hs : s < 32) :
    Calls Try.prog 88 #[.slice X1 n1 d1, .int .i64 s] w fun e w' => ∃ (g : Nat) (ds : List Int), e = .returned (.slice (some ⟨g, 0, none⟩) (n1 + 1) (n1 + 1)) ∧ w'.ownsRow w.heap.size 118 1 (.slice (some ⟨g, 0, none⟩) (n1 + 1) (n1 + 1)) (n1 + 1) (ints .u32 ds) ∧ Dig 4294967296 ds ∧ val 4294967296 ds = 2 ^ s * val 4294967296 xs ∧ ds.getD n1 0 < 2 ^ s ∧ Below w.heap.size w w' := by
  have I := info_u32
  have HI := Lib.hid I
  have hid := Lib.hid k1
  have L1 := Lib.hid h1.1
  clear I k1
  have B0 := Below.refl w.heap.size w
  have p0 : (0 : Int) < 2 ^ s := Int.pow_pos (by omega)
  have p1 : (2 : Int) ^ s ≤ 2147483648 := by
    have : (2 : Nat) ^ s ≤ 2 ^ 31 := Nat.pow_le_pow_right (by omega) (by omega)
    have h2 : ((2 ^ s : Nat) : Int) ≤ ((2 ^ 31 : Nat) : Int) := by exact_mod_cast this
    simpa using h2
  have hdv := Lib.hid (show (2 : Int) ^ s ∣ 4294967296 from ⟨2 ^ (32 - s), by rw [← Int.pow_add, show s + (32 - s) = 32 by omega]; rfl⟩)
  go_enter Try.func88, Try.ntmps88
  go_wp2_with (first | (at_make; refine make_num w.heap.size rfl _ _ 59 118 .u32 4 rfl Try.underlying59 HI.out _ _ _ _ (n1 + 1) rfl rfl (by simp) (by simp) (by omega) (by omega) B0 (Nat.le_refl _) ?_; intro w3 hown HB3) | go_in)
  clear B0
  have hst := Shl.start (B := 4294967296) (by omega) p0 xs
  rw [L1.out] at hst
  go_loopw [15] (fun i wr => ∃ (k : Nat) (out : List Int), k ≤ n1 ∧ i = .int .i64 k ∧ Shl 4294967296 (2 ^ s) xs k out ∧ wr.ownsRow w.heap.size 118 1 (.slice (some ⟨w.heap.size, 0, none⟩) (n1 + 1) (n1 + 1)) (n1 + 1) (ints .u32 out) ∧ Below w.heap.size w wr) (fun i _ => n1 - (intOf i).toNat)
  case atStart => exact ⟨0, _, Nat.zero_le _, rfl, hst, hown, HB3⟩
  case round =>
    clear hst hown HB3
    obtain ⟨k, out, hk, rfl, hS, ho, hB⟩ := hrel
    by_cases hlt : k < n1
    · obtain ⟨g, off, rfl, lg, cg⟩ := h1.at_ (by omega)
      have cg1 : wr.cell? ⟨g, off + k, none⟩ = some (.int .u32 (xs.getD k 0)) := (hB.cell (p := ⟨g, off + k, none⟩) lg).trans (cg k (by omega))
      clear cg
      have hd := hid.out.at k (by omega)
      have od := hS.dig.at k (by omega)
      have hlow := hS.low
      obtain ⟨hS2, hm, hsum⟩ := hS.step p0 (by omega) hdv.out hid.out (by rw [L1.out]; exact hlt)
      obtain ⟨o1, o2⟩ := own_at ho k (by omega)
      obtain ⟨o3, o4⟩ := own_at ho (k + 1) (by omega)
      generalize xs.getD k 0 = x at *
      generalize out.getD k 0 = oo at *
      generalize out.getD (k + 1) 0 = oz at *
      have xp0 : 0 ≤ x * 2 ^ s := Int.mul_nonneg hd.1 (by omega)
      have xp1 : x * 2 ^ s ≤ 4294967295 * 2147483648 := Int.le_trans (Int.mul_le_mul_of_nonneg_right (show x ≤ 4294967295 by omega) (by omega)) (Int.mul_le_mul_of_nonneg_left p1 (by omega))
      have W1 : IntKind.u64.wrap (x * 2 ^ s) = x * 2 ^ s := by rw [IntKind.wrap_u64]; omega
      have W2 : x * 2 ^ s / 4294967296 % 4294967296 = x * 2 ^ s / 4294967296 := by omega
      have W3 : bits BinOp.or IntKind.u32 oo (x * 2 ^ s % 4294967296) = oo + x * 2 ^ s % 4294967296 := or32_add _ _ s (by omega) od.1 hlow (by omega) (by omega) hm
      have hm' := Lib.hid hm
      clear hm
      obtain ⟨so1, sb1⟩ := own_set ho hB (Nat.le_refl _) k (oo + x * 2 ^ s % 4294967296)
      obtain ⟨so2, sb2⟩ := own_set so1 sb1 (Nat.le_refl _) (k + 1) (x * 2 ^ s / 4294967296)
      go_wp2_with fail
      go_roundw
      case rel => exact ⟨k + 1, _, by omega, by go_num, hS2, so2, sb2⟩
      case measure => simp [intOf]; omega
    · have hk2 : k = n1 := by omega
      subst hk2
      have hS' := hS
      rw [← L1.out] at hS'
      have hP := Lib.hid hS'.stop
      have hl := hS.low
      clear hS'
      go_wp2
      go_ret
      exact ⟨_, out, rfl, ho, hS.dig, hP.out, hl, hB⟩
end Go.Proofs.Ytjmbpeniibdnoaa
