/- exact: functions on digits. -/
import Derived.Test.YtjmbpeniibdnoaaBits
set_option linter.unusedVariables false
set_option linter.unusedSimpArgs false
namespace Go.Proofs.Ytjmbpeniibdnoaa
open Go.RowKit

theorem info_u32 : (Try.prog.info? 118).map (fun i => (i.zero, i.size, i.bytes)) = some (some (.int .u32 0), 1, 4) := by kernel_rfl

set_option maxHeartbeats 400000 in
theorem add32_calls (x y c : Int) (w : World) (hx0 : 0 ≤ x) (hx1 : x < 4294967296) (hy0 : 0 ≤ y) (hy1 : y < 4294967296) (hc0 : 0 ≤ c) (hc1 : c ≤ 1) :
    Calls Try.prog 89 #[.int .u32 x, .int .u32 y, .int .u32 c] w fun e w' => e = .returned (.tuple #[.int .u32 ((x + y + c) % 4294967296), .int .u32 ((x + y + c) / 4294967296)]) ∧ w' = w := by
  go_enter Try.func89, Try.ntmps89
  go_wp2
  go_ret2
  exact ⟨rfl, rfl⟩

set_option maxHeartbeats 400000 in
theorem sub32_calls (x y c : Int) (w : World) (hx0 : 0 ≤ x) (hx1 : x < 4294967296) (hy0 : 0 ≤ y) (hy1 : y < 4294967296) (hc0 : 0 ≤ c) (hc1 : c ≤ 1) :
    Calls Try.prog 90 #[.int .u32 x, .int .u32 y, .int .u32 c] w fun e w' => e = .returned (.tuple #[.int .u32 ((x - y - c) % 4294967296), .int .u32 (if x - y - c < 0 then 1 else 0)]) ∧ w' = w := by
  have hb := borrow x y c hx0 hx1 hy0 hy1 hc0 hc1
  generalize hz : (if x - y - c < 0 then 1 else 0 : Int) = z at *
  have HZ := Lib.hid hz
  clear hz
  go_enter Try.func90, Try.ntmps90
  go_wp2
  go_ret2
  exact ⟨rfl, rfl⟩

set_option maxHeartbeats 400000 in
theorem div32_calls (h l y : Int) (w : World) (hx0 : 0 ≤ h) (hx1 : h < y) (hl0 : 0 ≤ l) (hl1 : l < 4294967296) (hy1 : y < 4294967296) :
    Calls Try.prog 86 #[.int .u32 h, .int .u32 l, .int .u32 y] w fun e w' => e = .returned (.tuple #[.int .u32 ((h * 4294967296 + l) / y), .int .u32 ((h * 4294967296 + l) % y)]) ∧ ∃ n, w' = w.drewN n := by
  have hj := join32 h l hx0 (by omega) hl0 hl1
  have q0 : 0 ≤ (h * 4294967296 + l) / y := Int.ediv_nonneg (by omega) (by omega)
  have q1 : (h * 4294967296 + l) / y < 4294967296 := Int.ediv_lt_of_lt_mul (by omega) (by have : (h + 1) * 4294967296 ≤ y * 4294967296 := Int.mul_le_mul_of_nonneg_right (by omega) (by omega); omega)
  have r0 : 0 ≤ (h * 4294967296 + l) % y := Int.emod_nonneg _ (by omega)
  have r1 : (h * 4294967296 + l) % y < y := Int.emod_lt_of_pos _ (by omega)
  have r2 : (h * 4294967296 + l) % y < 4294967296 := by omega
  have hy0 : (y != 0) = true := by simp; omega
  have hd0 : decide (y ≤ h) = false := by simp; omega
  go_enter Try.func86, Try.ntmps86
  go_wp2
  go_quiet (fail)
  go_wp2
  go_ret2
  exact ⟨rfl, _, rfl⟩

/-- The state of plus behind k digits. -/
structure Plus (a b : List Int) (k : Nat) (ds : List Int) (cy : Int) : Prop where
  c0 : 0 ≤ cy
  c1 : cy ≤ 1
  len : ds.length = k
  dig : Dig 4294967296 ds
  eq : val 4294967296 ds + 4294967296 ^ k * cy = val 4294967296 (a.take k) + val 4294967296 (b.take k)

theorem Plus.start (a b : List Int) : Plus a b 0 [] 0 := ⟨by omega, by omega, rfl, Dig.nil, by simp [val]⟩
theorem Plus.step {a b : List Int} {k : Nat} {ds : List Int} {cy : Int} (h : Plus a b k ds cy) (ha : Dig 4294967296 a) (hb : Dig 4294967296 b) :
    Plus a b (k + 1) (ds ++ [(a.getD k 0 + b.getD k 0 + cy) % 4294967296]) ((a.getD k 0 + b.getD k 0 + cy) / 4294967296) := by
  have h1 := ha.at k (by omega)
  have h2 := hb.at k (by omega)
  have c0 := h.c0
  have c1 := h.c1
  refine ⟨by omega, by omega, by simp [h.len], h.dig.append (Dig.one (by omega) (by omega)), ?_⟩
  rw [val_append, val_take_any, val_take_any, h.len, Int.pow_succ]
  have e := h.eq
  have m := Int.emod_add_mul_ediv (a.getD k 0 + b.getD k 0 + cy) 4294967296
  generalize (a.getD k 0 + b.getD k 0 + cy) / 4294967296 = q at *
  generalize (a.getD k 0 + b.getD k 0 + cy) % 4294967296 = r at *
  generalize (4294967296 : Int) ^ k = p at *
  simp only [val]
  grind
theorem Plus.stop {a b : List Int} {ds : List Int} {cy : Int} (h : Plus a b a.length ds cy) (hb : b.length ≤ a.length) :
    (ds ++ [cy]).length = a.length + 1 ∧ Dig 4294967296 (ds ++ [cy]) ∧ val 4294967296 (ds ++ [cy]) = val 4294967296 a + val 4294967296 b := by
  have e := h.eq
  rw [List.take_of_length_le (Nat.le_refl _), List.take_of_length_le hb] at e
  refine ⟨by simp [h.len], h.dig.append (Dig.one h.c0 (by have := h.c1; omega)), ?_⟩
  rw [val_append, h.len]
  simp only [val, Int.mul_zero, Int.add_zero]
  omega

set_option maxHeartbeats 800000 in
set_option maxRecDepth 100000 in
theorem plus_calls (A1 : Option Addr) (n1 c1 : Nat) (a : List Int) (A2 : Option Addr) (n2 c2 : Nat) (b : List Int) (w : World)
    (h1 : RdI w 118 .u32 A1 n1 a) (h2 : RdI w 118 .u32 A2 n2 b) (k1 : Dig 4294967296 a) (k2 : Dig 4294967296 b) (b1 : n1 ≤ 1000000000) (b2 : n2 ≤ 1000000000) :
    Calls Try.prog 83 #[.slice A1 n1 c1, .slice A2 n2 c2] w fun e w' => ∃ (A : Option Addr) (n c : Nat) (ds : List Int), e = .returned (.slice A n c) ∧ A ≠ none ∧ n ≤ c ∧ n ≤ max n1 n2 + 1 ∧ RdI w' 118 .u32 A n ds ∧ Dig 4294967296 ds ∧ val 4294967296 ds = val 4294967296 a + val 4294967296 b ∧ Below w.heap.size w w' := by
  have I := info_u32
  have HI := Lib.hid I
  clear I
  obtain ⟨i0, hi, hz0, hz1, hz2⟩ := info_parts HI.out
  go_enter Try.func83, Try.ntmps83
  go_upto_if 14 with (fail)
  go_cut [0, 1] (fun x y wc => wc = w ∧ ∃ (A1' : Option Addr) (n1' c1' : Nat) (a' : List Int) (A2' : Option Addr) (n2' c2' : Nat) (b' : List Int), x = .slice A1' n1' c1' ∧ y = .slice A2' n2' c2' ∧ RdI w 118 .u32 A1' n1' a' ∧ RdI w 118 .u32 A2' n2' b' ∧ Hid (Dig 4294967296 a' ∧ Dig 4294967296 b' ∧ n2' ≤ n1' ∧ n1' ≤ max n1 n2 ∧ val 4294967296 a' + val 4294967296 b' = val 4294967296 a + val 4294967296 b))
  case first =>
    go_wp2
    · go_meet
      case rel => exact ⟨rfl, _, _, _, _, _, _, _, _, rfl, rfl, h2, h1, ⟨k2, k1, by omega, by omega, by omega⟩⟩
    · go_meet
      case rel => exact ⟨rfl, _, _, _, _, _, _, _, _, rfl, rfl, h1, h2, ⟨k1, k2, by omega, by omega, by omega⟩⟩
  case rest =>
    obtain ⟨rfl, X1, m1, d1, a', X2, m2, d2, b', rfl, rfl, g1, g2, hid⟩ := hcut
    have hm1 : m1 ≤ 1000000000 := by have := hid.out.2.2.2.1; omega
    have hm2 : m2 ≤ m1 := hid.out.2.2.1
    have B0 := Below.refl wc.heap.size wc
    go_wp2_with (first | (at_make; refine wpList_make_own _ rfl _ _ 59 rfl wc.heap.size 118 i0 (.int .u32 0) 1 Try.underlying59 hi hz0 hz1 _ _ _ (m1 + 1) rfl rfl (by simp) (by rw [hz2]; omega) (by simp [maxLen]; omega) (Nat.le_refl _) ?_; intro w1 hown hgrow) | go_in)
    have HB : Below wc.heap.size wc w1 := B0.grown hgrow (Nat.le_refl _) (by simp)
    clear hgrow B0
    go_loopw [5, 6, 23] (fun v c i wr => ∃ (k : Nat) (ds : List Int) (cy : Int), k ≤ m1 ∧ i = .int .i64 k ∧ c = .int .u32 cy ∧ Plus a' b' k ds cy ∧ wr.ownsRow wc.heap.size 118 1 v ds.length (ints .u32 ds) ∧ Below wc.heap.size wc wr) (fun _ _ i _ => m1 - (intOf i).toNat)
    case atStart => exact ⟨0, [], 0, Nat.zero_le _, rfl, rfl, Plus.start _ _, hown, HB⟩
    case round =>
      obtain ⟨k, ds, cy, hk, rfl, rfl, hp, ho, hB⟩ := hrel
      have hc0 := hp.c0
      have hc1 := hp.c1
      have hl := Lib.hid hp.len
      by_cases hlt : k < m1
      · obtain ⟨ga, oa, rfl, la, ca⟩ := g1.at_ (by omega)
        have ca1 : wr.cell? ⟨ga, oa + k, none⟩ = some (.int .u32 (a'.getD k 0)) := (hB.cell (p := ⟨ga, oa + k, none⟩) la).trans (ca k hlt)
        clear ca
        have da := hid.out.1.at k (by omega)
        have db := hid.out.2.1.at k (by omega)
        have hs := hp.step hid.out.1 hid.out.2.1
        by_cases hl2 : k < m2
        · obtain ⟨gb, ob, rfl, lb, cb⟩ := g2.at_ (by omega)
          have cb1 : wr.cell? ⟨gb, ob + k, none⟩ = some (.int .u32 (b'.getD k 0)) := (hB.cell (p := ⟨gb, ob + k, none⟩) lb).trans (cb k hl2)
          clear cb
          generalize a'.getD k 0 = x at *
          generalize b'.getD k 0 = y at *
          go_wp2_with fail
          refine (add32_calls x y cy _ da.1 da.2 db.1 db.2 hc0 hc1).mono ?_
          rintro e w' ⟨rfl, rfl⟩
          go_wp2_with (at_builtin; refine append_num wc.heap.size rfl _ _ 59 118 .u32 4 rfl Try.underlying59 HI.out (by omega) u5 ds _ rfl rfl ho hB hB.size (by have := hl.out; omega) ?_; intro v1 w2 ho2 hB2)
          go_roundw
          case rel => exact ⟨k + 1, _, _, by omega, by go_num, rfl, hs, ho2, hB2⟩
          case measure => simp [intOf]; omega
        · have hy0 : b'.getD k 0 = 0 := by rw [List.getD_eq_getElem?_getD, List.getElem?_eq_none (by rw [g2.1]; omega)]; rfl
          rw [hy0, Int.add_zero] at hs
          clear hy0 db
          generalize a'.getD k 0 = x at *
          go_wp2_with fail
          refine (add32_calls x 0 cy _ da.1 da.2 (by omega) (by omega) hc0 hc1).mono ?_
          rintro e w' ⟨rfl, rfl⟩
          go_wp2_with (at_builtin; refine append_num wc.heap.size rfl _ _ 59 118 .u32 4 rfl Try.underlying59 HI.out (by omega) u5 ds _ rfl rfl ho hB hB.size (by have := hl.out; omega) ?_; intro v1 w2 ho2 hB2)
          go_roundw
          case rel => exact ⟨k + 1, _, _, by omega, by go_num, rfl, hs, ho2, hB2⟩
          case measure => simp [intOf]; omega
      · have hk1 : k = m1 := by omega
        subst hk1
        have hst := hp
        rw [← g1.1] at hst
        have hst := Lib.hid (hst.stop (by rw [g1.1, g2.1]; exact hm2))
        go_wp2_with (at_builtin; refine append_num wc.heap.size rfl _ _ 59 118 .u32 4 rfl Try.underlying59 HI.out (by omega) u5 ds _ rfl rfl ho hB hB.size (by have := hl.out; omega) ?_; intro v1 w2 ho2 hB2)
        obtain ⟨A, c, rfl, hc, hr, hn⟩ := RdI.own ho2
        go_ret
        exact ⟨A, _, c, _, rfl, by intro e; have := hn e; have := hst.out.1; omega, hc, by have := hst.out.1; have := hid.out.2.2.2.1; have := g1.1; omega, hr, hst.out.2.1, by rw [hst.out.2.2]; exact hid.out.2.2.2.2, hB2⟩
end Go.Proofs.Ytjmbpeniibdnoaa
