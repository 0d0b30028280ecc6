/- exact: digits, Of, Sign, Neg, Abs, Int. -/
import Derived.Test.YtjmbpeniibdnoaaInt3
set_option linter.unusedVariables false
set_option linter.unusedSimpArgs false
namespace Go.Proofs.Ytjmbpeniibdnoaa
open Go.RowKit

theorem RdI.two (W : World) (a b : Int) (g : Nat) (hg : g = W.heap.size) : RdI (W.alloc (.cells #[.int .u32 a, .int .u32 b] 118)) 118 .u32 (some ⟨g, 0, none⟩) 2 [a, b] := by
  refine ⟨rfl, by omega, fun _ => ⟨g, 0, _, (0, 0), rfl, blk_at _ hg, fun j hj => ?_⟩⟩
  match j, hj with
  | 0, _ => rfl
  | 1, _ => rfl

/-- The size of an integer: fewer than k bits. -/
def Sz (k : Nat) (x : Int) : Prop := x.natAbs < 2 ^ k
theorem Sz.mono {k l : Nat} {x : Int} (h : Sz k x) (e : k ≤ l) : Sz l x := Nat.lt_of_lt_of_le h (Nat.pow_le_pow_right (by omega) e)
theorem Sz.neg {k : Nat} {x : Int} (h : Sz k x) : Sz k (-x) := by unfold Sz at *; rw [Int.natAbs_neg]; exact h
theorem Sz.add {k : Nat} {x y : Int} (h : Sz k x) (e : Sz k y) : Sz (k + 1) (x + y) := by
  unfold Sz at *
  have := Int.natAbs_add_le x y
  rw [Nat.pow_succ]
  omega
theorem Sz.mul {k l : Nat} {x y : Int} (h : Sz k x) (e : Sz l y) : Sz (k + l) (x * y) := by
  unfold Sz at *
  rw [Int.natAbs_mul, Nat.pow_add]
  rcases Nat.eq_zero_or_pos x.natAbs with h0 | h0
  · rw [h0, Nat.zero_mul]
    exact Nat.mul_pos (Nat.two_pow_pos k) (Nat.two_pow_pos l)
  · exact Nat.lt_of_le_of_lt (Nat.mul_le_mul_left _ (Nat.le_of_lt e)) (Nat.mul_lt_mul_of_pos_right h (Nat.two_pow_pos l))
theorem Sz.small {x : Int} (h0 : -18446744073709551616 < x) (h1 : x < 18446744073709551616) : Sz 64 x := by unfold Sz; omega
theorem Sz.le {k : Nat} {x y : Int} (h : Sz k x) (e : y.natAbs ≤ x.natAbs) : Sz k y := Nat.lt_of_le_of_lt e h

theorem len_of_sz {ds : List Int} {k : Nat} {x : Int} (hd : Dig 4294967296 ds) (ht : Trimmed ds) (hv : (val 4294967296 ds).natAbs ≤ x.natAbs) (hs : Sz k x) (hk : k ≤ 30000000000) : ds.length ≤ 1000000000 := by
  by_cases e : ds = []
  · rw [e]; simp
  · have h1 := Trimmed.le (by omega) hd ht e
    have h2 : (2 : Nat) ^ (32 * (ds.length - 1)) < 2 ^ k := by
      refine Nat.lt_of_le_of_lt ?_ hs
      refine Nat.le_trans ?_ hv
      have h3 : ((4294967296 : Int) ^ (ds.length - 1)).natAbs ≤ (val 4294967296 ds).natAbs := by
        have := pow_pos' (B := 4294967296) (by omega) (ds.length - 1)
        omega
      rw [Int.natAbs_pow] at h3
      rw [Nat.pow_mul]
      exact h3
    have h4 := (Nat.pow_lt_pow_iff_right (by omega : 1 < 2)).1 h2
    omega

/-- Digits of a number: a sign and a trimmed list. -/
structure DgV (w : World) (s : Int) (A : Option Addr) (n c : Nat) (ds : List Int) (x : Int) : Prop where
  rd : RdI w 118 .u32 A n ds
  cap : n ≤ c
  dig : Dig 4294967296 ds
  trim : Trimmed ds
  sign : s = 1 ∧ 0 < val 4294967296 ds ∨ s = -1 ∧ 0 < val 4294967296 ds ∨ s = 0 ∧ val 4294967296 ds = 0
  eq : x = s * val 4294967296 ds
theorem DgV.kp {w w' : World} {s : Int} {A : Option Addr} {n c : Nat} {ds : List Int} {x : Int} (h : DgV w s A n c ds x) (e : Kp 118 w w') : DgV w' s A n c ds x := ⟨h.rd.kp e, h.cap, h.dig, h.trim, h.sign, h.eq⟩
theorem DgV.below {w w' : World} {s : Int} {A : Option Addr} {n c : Nat} {ds : List Int} {x : Int} (h : DgV w s A n c ds x) (e : Below w.heap.size w w') : DgV w' s A n c ds x := h.kp (Kp.below e)
theorem DgV.abs {w : World} {s : Int} {A : Option Addr} {n c : Nat} {ds : List Int} {x : Int} (h : DgV w s A n c ds x) : (val 4294967296 ds).natAbs = x.natAbs := by
  rcases h.sign with ⟨e, _⟩ | ⟨e, _⟩ | ⟨e, e2⟩
  · rw [h.eq, e, Int.one_mul]
  · rw [h.eq, e]; omega
  · rw [h.eq, e, e2]; rfl
theorem DgV.len {w : World} {s : Int} {A : Option Addr} {n c : Nat} {ds : List Int} {x : Int} (h : DgV w s A n c ds x) {k : Nat} (hs : Sz k x) (hk : k ≤ 30000000000) : n ≤ 1000000000 := by
  have := len_of_sz h.dig h.trim (Nat.le_of_eq h.abs) hs hk
  rw [h.rd.1] at this
  exact this

theorem two_val (x : Int) (h0 : 0 ≤ x) (h1 : x < 18446744073709551616) : val 4294967296 [x % 4294967296, x / 4294967296] = x := by
  simp only [val]; omega
theorem two_dig (x : Int) (h0 : 0 ≤ x) (h1 : x < 18446744073709551616) : Dig 4294967296 [x % 4294967296, x / 4294967296] := by
  intro y hy
  simp at hy
  omega

set_option maxHeartbeats 800000 in
set_option maxRecDepth 100000 in
theorem digits_calls (v : Int) (A : Option Addr) (n c : Nat) (x : Int) (w : World) (h : IntV w v A n c x) :
    Calls Try.prog 76 #[.agg #[.int .i64 v, .slice A n c]] w fun e w' => ∃ (s : Int) (A' : Option Addr) (n' c' : Nat) (ds : List Int), e = .returned (.tuple #[.int .i64 s, .slice A' n' c']) ∧ DgV w' s A' n' c' ds x ∧ Below w.heap.size w w' := by
  rcases h with ⟨rfl, rfl, rfl, rfl, h0, h1⟩ | ⟨hA, hc, hs, ds, hr, kd, ht, hb, rfl⟩
  · have q := fun (w : World) => run_neq_slice_nil_any (P := Try.prog) w 59 118 none 0 0 0 0 Try.underlying59
    rcases Int.lt_trichotomy v 0 with hv | hv | hv
    · go_enter Try.func76, Try.ntmps76
      go_wp2
      go_quiet (fail)
      go_wp2_with fail
      refine (trim_calls _ _ _ [(-v) % 4294967296, (-v) / 4294967296] _ (RdI.two _ _ _ _ (by simp)) (two_dig _ (by omega) (by omega)) (by omega)).mono ?_
      rintro e w' ⟨m, rfl, hm, hr, ht, hvv, rfl⟩
      have kd := (two_dig (-v) (by omega) (by omega)).take m
      rw [two_val _ (by omega) (by omega)] at hvv
      have hvv := Lib.hid hvv
      generalize List.take m [(-v) % 4294967296, (-v) / 4294967296] = es at *
      go_wp2
      go_ret2
      exact ⟨-1, _, _, _, es, rfl, ⟨hr, hm, kd, ht, .inr (.inl ⟨rfl, by rw [hvv.out]; omega⟩), by rw [hvv.out]; omega⟩, bl_alloc (bl_drewN (bl_alloc (Below.refl _ _) _) _) _⟩
    · subst hv
      go_enter Try.func76, Try.ntmps76
      go_wp2_with fail
      refine (trim_calls _ _ _ [0, 0] _ (RdI.two _ _ _ _ (by simp)) (two_dig 0 (by omega) (by omega)) (by omega)).mono ?_
      rintro e w' ⟨m, rfl, hm, hr, ht, hvv, rfl⟩
      have kd := (two_dig 0 (by omega) (by omega)).take m
      have hvv := Lib.hid hvv
      go_wp2
      go_ret2
      exact ⟨0, _, _, _, _, rfl, ⟨hr, hm, kd, ht, .inr (.inr ⟨rfl, by rw [hvv.out]; simp [val]⟩), by rw [Int.zero_mul]⟩, bl_alloc (bl_alloc (Below.refl _ _) _) _⟩
    · go_enter Try.func76, Try.ntmps76
      go_wp2
      go_quiet (fail)
      go_wp2_with fail
      refine (trim_calls _ _ _ [v % 4294967296, v / 4294967296] _ (RdI.two _ _ _ _ (by simp)) (two_dig _ (by omega) (by omega)) (by omega)).mono ?_
      rintro e w' ⟨m, rfl, hm, hr, ht, hvv, rfl⟩
      have kd := (two_dig v (by omega) (by omega)).take m
      rw [two_val _ (by omega) (by omega)] at hvv
      have hvv := Lib.hid hvv
      generalize List.take m [v % 4294967296, v / 4294967296] = es at *
      go_wp2
      go_ret2
      exact ⟨1, _, _, _, es, rfl, ⟨hr, hm, kd, ht, .inl ⟨rfl, by rw [hvv.out]; omega⟩, by rw [hvv.out]; omega⟩, bl_alloc (bl_drewN (bl_alloc (Below.refl _ _) _) _) _⟩
  · obtain ⟨a, rfl⟩ : ∃ a, A = some a := by cases A with | none => exact absurd rfl hA | some a => exact ⟨a, rfl⟩
    have q := fun (w : World) => run_neq_slice_nil_any (P := Try.prog) w 59 118 (some a) n c 0 0 Try.underlying59
    clear hA
    have HB := Lib.hid hb
    have HS := Lib.hid hs
    clear hb hs
    go_enter Try.func76, Try.ntmps76
    go_wp2
    go_quiet (fail)
    go_wp2
    go_ret2
    exact ⟨v, _, _, _, ds, rfl, ⟨hr.kp (by exact ((Kp.refl _ _).alloc _).drewN _), hc, kd, ht, by have := HB.out; rcases HS.out with e | e <;> simp [e] <;> omega, rfl⟩, bl_drewN (bl_alloc (Below.refl _ _) _) _⟩

set_option maxHeartbeats 800000 in
set_option maxRecDepth 100000 in
theorem of_calls (n : Int) (w : World) (h0 : -9223372036854775808 ≤ n) (h1 : n ≤ 9223372036854775807) :
    Calls Try.prog 60 #[.int .i64 n] w fun e w' => ∃ (v : Int) (A' : Option Addr) (n' c' : Nat), e = .returned (.agg #[.int .i64 v, .slice A' n' c']) ∧ IntV w' v A' n' c' n ∧ Below w.heap.size w w' := by
  by_cases ha : -4611686018427387904 < n
  · by_cases hb : n < 4611686018427387904
    · go_enter Try.func60, Try.ntmps60
      go_wp2
      refine bodyPost_ret (results_cell_row rfl _ _ w.heap.size 61 #[.int .i64 n, .slice none 0 0] (0, 0) _ rfl (blk_at _ rfl) Try.underlying61 rfl (by kernel_rfl)) rfl ?_
      exact ⟨_, _, _, _, rfl, IntV.small _ ha hb, (Below.refl _ _).alloc (Nat.le_refl _) _⟩
    · go_enter Try.func60, Try.ntmps60
      go_wp2
      refine bodyPost_ret (results_cell_row rfl _ _ w.heap.size 61 #[.int .i64 1, .slice (some ⟨w.heap.size + 1, 0, none⟩) 2 2] (0, 0) _ rfl (blk_alloc (blk_at _ rfl) _) Try.underlying61 rfl (by kernel_rfl)) rfl ?_
      exact ⟨_, _, _, _, rfl, .inr ⟨by simp, by omega, .inl rfl, _, RdI.two _ _ _ _ (by simp), two_dig n (by omega) (by omega), .inr (by simp; omega), by rw [two_val _ (by omega) (by omega)]; omega, by rw [two_val _ (by omega) (by omega)]; omega⟩, ((Below.refl _ _).alloc (Nat.le_refl _) _).alloc (by simp) _⟩
  · have e1 : IntKind.u64.wrap (-IntKind.u64.wrap n) = -n := by rw [IntKind.wrap_u64, IntKind.wrap_u64]; omega
    have e2 : (-n) / 4294967296 % 4294967296 = (-n) / 4294967296 := by omega
    go_enter Try.func60, Try.ntmps60
    go_wp2
    refine bodyPost_ret (results_cell_row rfl _ _ w.heap.size 61 #[.int .i64 (-1), .slice (some ⟨w.heap.size + 1, 0, none⟩) 2 2] (0, 0) _ rfl (blk_alloc (blk_at _ rfl) _) Try.underlying61 rfl (by kernel_rfl)) rfl ?_
    exact ⟨_, _, _, _, rfl, .inr ⟨by simp, by omega, .inr rfl, _, RdI.two _ _ _ _ (by simp), two_dig (-n) (by omega) (by omega), .inr (by simp; omega), by rw [two_val _ (by omega) (by omega)]; omega, by rw [two_val _ (by omega) (by omega)]; omega⟩, ((Below.refl _ _).alloc (Nat.le_refl _) _).alloc (by simp) _⟩

set_option maxHeartbeats 400000 in
theorem sign_calls (v : Int) (A : Option Addr) (n c : Nat) (x : Int) (w : World) (h : IntV w v A n c x) :
    Calls Try.prog 65 #[.agg #[.int .i64 v, .slice A n c]] w fun e w' => e = .returned (.int .i64 x.sign) ∧ Below w.heap.size w w' := by
  have hx : x.sign = v.sign := by
    rcases h with ⟨_, _, _, rfl, _, _⟩ | ⟨_, _, hs, ds, _, _, _, hb, rfl⟩
    · rfl
    · rcases hs with rfl | rfl
      · rw [Int.one_mul, Int.sign_eq_one_of_pos (by omega)]; rfl
      · rw [Int.sign_eq_neg_one_of_neg (by omega)]; rfl
  rw [hx]
  clear hx h
  rcases Int.lt_trichotomy v 0 with hv | hv | hv
  · rw [Int.sign_eq_neg_one_of_neg hv]
    go_enter Try.func65, Try.ntmps65
    go_wp2
    go_ret
    exact ⟨rfl, (Below.refl _ _).alloc (Nat.le_refl _) _⟩
  · subst hv
    go_enter Try.func65, Try.ntmps65
    go_wp2
    go_ret
    exact ⟨rfl, (Below.refl _ _).alloc (Nat.le_refl _) _⟩
  · rw [Int.sign_eq_one_of_pos hv]
    go_enter Try.func65, Try.ntmps65
    go_wp2
    go_ret
    exact ⟨rfl, (Below.refl _ _).alloc (Nat.le_refl _) _⟩

theorem IntV.bound {w : World} {v : Int} {A : Option Addr} {n c : Nat} {x : Int} (h : IntV w v A n c x) : -4611686018427387904 < v ∧ v < 4611686018427387904 := by
  rcases h with ⟨_, _, _, rfl, _, _⟩ | ⟨_, _, hs, ds, _⟩
  · exact ⟨by assumption, by assumption⟩
  · omega
theorem IntV.neg {w : World} {v : Int} {A : Option Addr} {n c : Nat} {x : Int} (h : IntV w v A n c x) : IntV w (-v) A n c (-x) := by
  rcases h with ⟨rfl, rfl, rfl, rfl, _, _⟩ | ⟨h1, h2, hs, ds, h3, h4, h5, h6, rfl⟩
  · exact .inl ⟨rfl, rfl, rfl, rfl, by omega, by omega⟩
  · exact .inr ⟨h1, h2, by omega, ds, h3, h4, h5, h6, by rw [Int.neg_mul]⟩

set_option maxHeartbeats 400000 in
theorem neg_calls (v : Int) (A : Option Addr) (n c : Nat) (x : Int) (w : World) (h : IntV w v A n c x) :
    Calls Try.prog 68 #[.agg #[.int .i64 v, .slice A n c]] w fun e w' => e = .returned (.agg #[.int .i64 (-v), .slice A n c]) ∧ Below w.heap.size w w' := by
  have hb := h.bound
  obtain ⟨hb0, hb1⟩ := hb
  clear h
  go_enter Try.func68, Try.ntmps68
  go_wp2
  refine bodyPost_ret (results_cell_row rfl _ _ (w.heap.size + 1) 61 #[.int .i64 (-v), .slice A n c] (0, 0) _ rfl (blk_at _ (by simp)) Try.underlying61 rfl (by kernel_rfl)) rfl ?_
  exact ⟨rfl, ((Below.refl _ _).alloc (Nat.le_refl _) _).alloc (by simp) _⟩

set_option maxHeartbeats 400000 in
theorem abs_calls (v : Int) (A : Option Addr) (n c : Nat) (x : Int) (w : World) (h : IntV w v A n c x) :
    Calls Try.prog 75 #[.agg #[.int .i64 v, .slice A n c]] w fun e w' => ∃ v' : Int, e = .returned (.agg #[.int .i64 v', .slice A n c]) ∧ IntV w' v' A n c (x.natAbs : Int) ∧ Below w.heap.size w w' := by
  by_cases hv : v < 0
  · have hx : (x.natAbs : Int) = -x := by
      rcases h with ⟨_, _, _, rfl, _, _⟩ | ⟨_, _, hs, ds, _, _, _, hb, rfl⟩
      · omega
      · have : v = -1 := by omega
        subst this
        omega
    have HX := Lib.hid hx
    go_enter Try.func75, Try.ntmps75
    go_wp2_with fail
    refine (neg_calls v A n c x _ (h.kp (((Kp.refl _ _).alloc _).alloc _))).mono ?_
    rintro e w' ⟨rfl, hB⟩
    have hb := blk_below (blk_at (g := w.heap.size + 1) (W := w.alloc (.cells #[.int .i64 v, .slice A n c] 61)) _ (by simp)) hB
    have hB0 := bl_then (bl_alloc (bl_alloc (Below.refl w.heap.size w) _) _) hB
    obtain ⟨q1, q2, q3, q4⟩ := bx2 hb
    clear hB
    have h2 := (h.below hB0).neg.kp (((Kp.refl _ _).set (p := ⟨w.heap.size + 1, 0, none⟩) hb (by decide) (.int .i64 (-v))).set (p := ⟨w.heap.size + 1, 1, none⟩) (blk_set hb 0 _) (by decide) (.slice A n c))
    go_wp2
    refine bodyPost_ret (results_cell_row rfl _ _ (w.heap.size + 1) 61 #[.int .i64 (-v), .slice A n c] (0, 0) _ rfl (blk_set2 hb _ _) Try.underlying61 rfl (by kernel_rfl)) rfl ?_
    exact ⟨_, rfl, by rw [HX.out]; exact h2, bl_set (bl_set hB0 (by simp) _) (by simp) _⟩
  · have hx : (x.natAbs : Int) = x := by
      rcases h with ⟨_, _, _, rfl, _, _⟩ | ⟨_, _, hs, ds, _, _, _, hb, rfl⟩
      · omega
      · have : v = 1 := by omega
        subst this
        omega
    have HX := Lib.hid hx
    clear hx
    have h2 := h.below (bl_alloc (bl_alloc (Below.refl w.heap.size w) (.cells #[.int .i64 v, .slice A n c] 61)) (.cells #[.int .i64 v, .slice A n c] 61))
    go_enter Try.func75, Try.ntmps75
    go_wp2
    refine bodyPost_ret (results_cell_row rfl _ _ (w.heap.size + 1) 61 #[.int .i64 v, .slice A n c] (0, 0) _ rfl (blk_at _ (by simp)) Try.underlying61 rfl (by kernel_rfl)) rfl ?_
    exact ⟨_, rfl, by rw [HX.out]; exact h2, bl_alloc (bl_alloc (Below.refl _ _) _) _⟩

/-- Int: the number, if it is at most a bound in absolute value. -/
theorem IntV.fits {w : World} {v : Int} {A : Option Addr} {n c : Nat} {x b : Int} (h : IntV w v A n c x) (h0 : -b ≤ x) (h1 : x ≤ b) (hb : b < 4611686018427387904) : A = none ∧ n = 0 ∧ c = 0 ∧ v = x := by
  rcases h with ⟨h2, h3, h4, h5, _⟩ | ⟨_, _, hs, ds, _, _, _, hv, rfl⟩
  · exact ⟨h2, h3, h4, h5⟩
  · exfalso; rcases hs with rfl | rfl <;> omega

set_option maxHeartbeats 800000 in
theorem int_yes (v : Int) (A : Option Addr) (n c : Nat) (x b : Int) (w : World) (h : IntV w v A n c x) (h0 : -b ≤ x) (h1 : x ≤ b) (hb : b < 4611686018427387904) :
    Calls Try.prog 38 #[.agg #[.int .i64 v, .slice A n c], .int .i64 b] w fun e w' => e = .returned (.tuple #[.int .i64 x, .bool true]) ∧ Below w.heap.size w w' := by
  obtain ⟨rfl, rfl, rfl, rfl⟩ := h.fits h0 h1 hb
  clear h
  have q := fun (w : World) => run_neq_slice_nil_any (P := Try.prog) w 59 118 none 0 0 0 0 Try.underlying59
  have d1 : decide (b < v) = false := by simp; omega
  have d2 : decide (v < -b) = false := by simp; omega
  go_enter Try.func38, Try.ntmps38
  go_wp2
  go_ret2
  exact ⟨rfl, bl_alloc (Below.refl _ _) _⟩

set_option maxHeartbeats 800000 in
theorem int_no (v : Int) (A : Option Addr) (n c : Nat) (x b : Int) (w : World) (h : IntV w v A n c x) (h0 : x < -b ∨ b < x) (hb0 : 0 ≤ b) (hb : b < 4611686018427387904) :
    Calls Try.prog 38 #[.agg #[.int .i64 v, .slice A n c], .int .i64 b] w fun e w' => e = .returned (.tuple #[.int .i64 0, .bool false]) ∧ Below w.heap.size w w' := by
  rcases h with ⟨rfl, rfl, rfl, rfl, h2, h3⟩ | ⟨hA, hc, hs, ds, hr, kd, ht, hv, rfl⟩
  · have q := fun (w : World) => run_neq_slice_nil_any (P := Try.prog) w 59 118 none 0 0 0 0 Try.underlying59
    by_cases d : b < v
    · go_enter Try.func38, Try.ntmps38
      go_wp2
      go_ret2
      exact ⟨rfl, bl_alloc (Below.refl _ _) _⟩
    · have d1 : decide (b < v) = false := by simp; omega
      have d2 : decide (v < -b) = true := by simp; omega
      go_enter Try.func38, Try.ntmps38
      go_wp2
      go_ret2
      exact ⟨rfl, bl_alloc (Below.refl _ _) _⟩
  · obtain ⟨a, rfl⟩ : ∃ a, A = some a := by cases A with | none => exact absurd rfl hA | some a => exact ⟨a, rfl⟩
    have q := fun (w : World) => run_neq_slice_nil_any (P := Try.prog) w 59 118 (some a) n c 0 0 Try.underlying59
    clear hA hs h0 hv ht kd hr
    go_enter Try.func38, Try.ntmps38
    go_wp2
    go_ret2
    exact ⟨rfl, bl_alloc (Below.refl _ _) _⟩
end Go.Proofs.Ytjmbpeniibdnoaa
