/- exact: Add, Mul, Div of rationals. -/
import Derived.Test.YtjmbpeniibdnoaaRat2
import Derived.Test.YtjmbpeniibdnoaaInt8
set_option linter.unusedVariables false
set_option linter.unusedSimpArgs false
namespace Go.Proofs.Ytjmbpeniibdnoaa
open Go.RowKit

theorem keep8_set4 {w : World} {ga gb g : Nat} {x1 x2 x3 x4 x5 x6 x7 x8 y1 y2 y3 y4 : Value} (h : w.cell? ⟨ga, 0, none⟩ = some x1 ∧ w.cell? ⟨ga, 1, none⟩ = some x2 ∧ w.cell? ⟨ga, 2, none⟩ = some x3 ∧ w.cell? ⟨ga, 3, none⟩ = some x4 ∧ w.cell? ⟨gb, 0, none⟩ = some x5 ∧ w.cell? ⟨gb, 1, none⟩ = some x6 ∧ w.cell? ⟨gb, 2, none⟩ = some x7 ∧ w.cell? ⟨gb, 3, none⟩ = some x8) (ea : ga ≠ g) (eb : gb ≠ g) :
    let W := (((w.setCell ⟨g, 0, none⟩ y1).setCell ⟨g, 1, none⟩ y2).setCell ⟨g, 2, none⟩ y3).setCell ⟨g, 3, none⟩ y4
    W.cell? ⟨ga, 0, none⟩ = some x1 ∧ W.cell? ⟨ga, 1, none⟩ = some x2 ∧ W.cell? ⟨ga, 2, none⟩ = some x3 ∧ W.cell? ⟨ga, 3, none⟩ = some x4 ∧ W.cell? ⟨gb, 0, none⟩ = some x5 ∧ W.cell? ⟨gb, 1, none⟩ = some x6 ∧ W.cell? ⟨gb, 2, none⟩ = some x7 ∧ W.cell? ⟨gb, 3, none⟩ = some x8 :=
  keep8_set1 (keep8_set1 (keep8_set1 (keep8_set1 h ea ea ea ea eb eb eb eb) ea ea ea ea eb eb eb eb) ea ea ea ea eb eb eb eb) ea ea ea ea eb eb eb eb
theorem rat_div_eq (q r : Rat) : q / r = Rat.divInt (q.num * (r.den : Int)) ((q.den : Int) * r.num) := by
  conv => lhs; rw [Rat.div_def, Rat.inv_def, ← Rat.num_divInt_den q]
  rw [Rat.divInt_mul_divInt]
theorem rat_mul_eq (q r : Rat) : q * r = Rat.divInt (q.num * r.num) ((q.den : Int) * (r.den : Int)) := by
  conv => lhs; rw [← Rat.num_divInt_den q, ← Rat.num_divInt_den r]
  rw [Rat.divInt_mul_divInt]
theorem rat_add_eq (q r : Rat) : q + r = Rat.divInt (q.num * (r.den : Int) + r.num * (q.den : Int)) ((q.den : Int) * (r.den : Int)) := by
  have := q.den_pos
  have := r.den_pos
  conv => lhs; rw [← Rat.num_divInt_den q, ← Rat.num_divInt_den r]
  rw [Rat.divInt_add_divInt _ _ (by omega) (by omega)]
theorem rat_mul_int {q r : Rat} (hq : q.den = 1) (hr : r.den = 1) : (q * r).num = q.num * r.num ∧ (q * r).den = 1 := by
  have h1 : q = ((q.num : Int) : Rat) := Rat.ext rfl hq
  have h2 : r = ((r.num : Int) : Rat) := Rat.ext rfl hr
  have e : q * r = ((q.num * r.num : Int) : Rat) := by rw [Rat.intCast_mul, ← h1, ← h2]
  rw [e]
  exact ⟨rfl, rfl⟩
theorem rat_add_int {q r : Rat} (hq : q.den = 1) (hr : r.den = 1) : (q + r).num = q.num + r.num ∧ (q + r).den = 1 := by
  have h1 : q = ((q.num : Int) : Rat) := Rat.ext rfl hq
  have h2 : r = ((r.num : Int) : Rat) := Rat.ext rfl hr
  have e : q + r = ((q.num + r.num : Int) : Rat) := by rw [Rat.intCast_add, ← h1, ← h2]
  rw [e]
  exact ⟨rfl, rfl⟩

set_option maxHeartbeats 8000000 in
set_option maxRecDepth 100000 in
theorem rdiv_calls (v1 : Int) (A1 : Option Addr) (n1 c1 : Nat) (v1' : Int) (A1' : Option Addr) (n1' c1' : Nat) (q : Rat) (v2 : Int) (A2 : Option Addr) (n2 c2 : Nat) (v2' : Int) (A2' : Option Addr) (n2' c2' : Nat) (r : Rat) (w : World)
    (h1 : RatV w v1 A1 n1 c1 v1' A1' n1' c1' q) (h2 : RatV w v2 A2 n2 c2 v2' A2' n2' c2' r) (k : Nat) (s1 : SzR k q) (s2 : SzR k r) (hk : k ≤ 10000000000) (hr : r ≠ 0) :
    Calls Try.prog 43 #[.agg #[.int .i64 v1, .slice A1 n1 c1, .int .i64 v1', .slice A1' n1' c1'], .agg #[.int .i64 v2, .slice A2 n2 c2, .int .i64 v2', .slice A2' n2' c2']] w fun e w' => RatR e w' (q / r) ∧ Below w.heap.size w w' := by
  have HQ := Lib.hid (rat_div_eq q r)
  go_enter Try.func43, Try.ntmps43
  go_wp2_with fail
  have B3 := bl_alloc (bl_alloc (bl_alloc (Below.refl w.heap.size w) (.cells #[.int .i64 v1, .slice A1 n1 c1, .int .i64 v1', .slice A1' n1' c1'] 63)) (.cells #[.int .i64 v2, .slice A2 n2 c2, .int .i64 v2', .slice A2' n2' c2'] 63)) (.cells #[.int .i64 0, .slice none 0 0, .int .i64 0, .slice none 0 0] 63)
  have a1 : (((w.alloc (.cells #[.int .i64 v1, .slice A1 n1 c1, .int .i64 v1', .slice A1' n1' c1'] 63)).alloc (.cells #[.int .i64 v2, .slice A2 n2 c2, .int .i64 v2', .slice A2' n2' c2'] 63)).alloc (.cells #[.int .i64 0, .slice none 0 0, .int .i64 0, .slice none 0 0] 63)).heap[w.heap.size]? = some (.cells #[.int .i64 v1, .slice A1 n1 c1, .int .i64 v1', .slice A1' n1' c1'] 63 (0, 0)) := blk_alloc (blk_alloc (blk_at _ rfl) _) _
  have a2 : (((w.alloc (.cells #[.int .i64 v1, .slice A1 n1 c1, .int .i64 v1', .slice A1' n1' c1'] 63)).alloc (.cells #[.int .i64 v2, .slice A2 n2 c2, .int .i64 v2', .slice A2' n2' c2'] 63)).alloc (.cells #[.int .i64 0, .slice none 0 0, .int .i64 0, .slice none 0 0] 63)).heap[w.heap.size + 1]? = some (.cells #[.int .i64 v2, .slice A2 n2 c2, .int .i64 v2', .slice A2' n2' c2'] 63 (0, 0)) := blk_alloc (blk_at _ (by simp)) _
  have a3 : (((w.alloc (.cells #[.int .i64 v1, .slice A1 n1 c1, .int .i64 v1', .slice A1' n1' c1'] 63)).alloc (.cells #[.int .i64 v2, .slice A2 n2 c2, .int .i64 v2', .slice A2' n2' c2'] 63)).alloc (.cells #[.int .i64 0, .slice none 0 0, .int .i64 0, .slice none 0 0] 63)).heap[w.heap.size + 1 + 1]? = some (.cells #[.int .i64 0, .slice none 0 0, .int .i64 0, .slice none 0 0] 63 (0, 0)) := blk_at _ (by simp)
  replace h1 := h1.below B3
  replace h2 := h2.below B3
  generalize ((w.alloc (.cells #[.int .i64 v1, .slice A1 n1 c1, .int .i64 v1', .slice A1' n1' c1'] 63)).alloc (.cells #[.int .i64 v2, .slice A2 n2 c2, .int .i64 v2', .slice A2' n2' c2'] 63)).alloc (.cells #[.int .i64 0, .slice none 0 0, .int .i64 0, .slice none 0 0] 63) = W3 at *
  obtain ⟨⟨p1, p2, p3, p4⟩, p5, p6, p7, p8⟩ := bx4 a1
  obtain ⟨⟨q1, q2, q3, q4⟩, q5, q6, q7, q8⟩ := bx4 a2
  obtain ⟨⟨r1, r2, r3, r4⟩, r5, r6, r7, r8⟩ := bx4 a3
  have h1_0 := h1
  have h2_0 := h2
  have hR_0 := a3
  have HB_0 := B3
  go_region_held3 (fun W => W.cell? ⟨w.heap.size, 0, none⟩ = some (.int .i64 v1) ∧ W.cell? ⟨w.heap.size, 1, none⟩ = some (.slice A1 n1 c1) ∧ W.cell? ⟨w.heap.size, 2, none⟩ = some (.int .i64 v1') ∧ W.cell? ⟨w.heap.size, 3, none⟩ = some (.slice A1' n1' c1') ∧ W.cell? ⟨w.heap.size + 1, 0, none⟩ = some (.int .i64 v2) ∧ W.cell? ⟨w.heap.size + 1, 1, none⟩ = some (.slice A2 n2 c2) ∧ W.cell? ⟨w.heap.size + 1, 2, none⟩ = some (.int .i64 v2') ∧ W.cell? ⟨w.heap.size + 1, 3, none⟩ = some (.slice A2' n2' c2')) (first | exact keep8 hB5 (by assumption) | exact keep8 hB4 (by assumption) | exact keep8 hB3 (by assumption) | exact keep8 hB2 (by assumption) | exact keep8 hB1 (by assumption) | exact ⟨p1, p2, p3, p4, q1, q2, q3, q4⟩ | exact keep8_set4 (by assumption) (by omega) (by omega) | go_keep) (first | (have _hh := hR_4; go_at_call 61; refine (ratio_calls vb Ab nb cb (q.num * (r.den : Int)) vd Ad nd cd ((q.den : Int) * r.num) _ (by first | exact tb_4 | exact (tb_4.kp (Kp.refl _ _).drew)) (by first | exact td_4 | exact (td_4.kp (Kp.refl _ _).drew)) (k + k) (s1.1.mul s2.2) (s1.2.mul s2.1) (by omega) (by have := q.den_pos; have := mt Rat.num_eq_zero.1 hr; exact Int.mul_ne_zero (by omega) this)).mono ?_; rintro e w5 ⟨⟨v, A, n, c, v', A', n', c', rfl, hV⟩, hB5⟩; have hR_5 := blk_below hR_4 hB5; have HB_5 := bl_then HB_4 hB5; have hE := Lib.hid (putRat hV hR_5 HB_5 (by omega)); obtain ⟨⟨z1, z2, z3, z4⟩, z5, z6, z7, z8⟩ := bx4 hR_5) | (have _hh := hR_3; go_at_call 64; refine (mul_calls vc Ac nc cc (q.den : Int) v2 A2 n2 c2 r.num _ (by first | exact tc_3 | exact (tc_3.kp (Kp.refl _ _).drew)) (by first | exact h2_3.1 | exact (h2_3.kp (Kp.refl _ _).drew).1) k s1.2 s2.1 hk).mono ?_; rintro e w4 ⟨vd, Ad, nd, cd, rfl, td_4, hB4⟩; have tb_4 := tb_3.below hB4; have hR_4 := blk_below (by first | exact hR_3 | exact blk_drew hR_3) hB4; have HB_4 := bl_then (by first | exact HB_3 | exact bl_drew HB_3) hB4) | (have _hh := hR_2; go_at_call_of 53 (Value.agg #[.int .i64 v1, .slice A1 n1 c1, .int .i64 v1', .slice A1' n1' c1']); refine (low_calls v1 A1 n1 c1 v1' A1' n1' c1' q _ (by first | exact h1_2 | exact (h1_2.kp (Kp.refl _ _).drew))).mono ?_; rintro e w3 ⟨⟨vc, Ac, nc, cc, rfl, tc_3⟩, hB3⟩; have h1_3 := h1_2.below hB3; have h2_3 := h2_2.below hB3; have tb_3 := tb_2.below hB3; have hR_3 := blk_below (by first | exact hR_2 | exact blk_drew hR_2) hB3; have HB_3 := bl_then (by first | exact HB_2 | exact bl_drew HB_2) hB3) | (have _hh := hR_1; go_at_call 64; refine (mul_calls v1 A1 n1 c1 q.num va Aa na ca (r.den : Int) _ (by first | exact h1_1.1 | exact (h1_1.kp (Kp.refl _ _).drew).1) (by first | exact ta_1 | exact (ta_1.kp (Kp.refl _ _).drew)) k s1.1 s2.2 hk).mono ?_; rintro e w2 ⟨vb, Ab, nb, cb, rfl, tb_2, hB2⟩; have h1_2 := h1_1.below hB2; have h2_2 := h2_1.below hB2; have hR_2 := blk_below (by first | exact hR_1 | exact blk_drew hR_1) hB2; have HB_2 := bl_then (by first | exact HB_1 | exact bl_drew HB_1) hB2) | (have _hh := hR_0; go_at_call_of 53 (Value.agg #[.int .i64 v2, .slice A2 n2 c2, .int .i64 v2', .slice A2' n2' c2']); refine (low_calls v2 A2 n2 c2 v2' A2' n2' c2' r _ (by first | exact h2_0 | exact (h2_0.kp (Kp.refl _ _).drew))).mono ?_; rintro e w1 ⟨⟨va, Aa, na, ca, rfl, ta_1⟩, hB1⟩; have h1_1 := (by first | exact h1_0.below hB1 | exact (h1_0.kp (Kp.refl _ _).drew).below hB1); have h2_1 := (by first | exact h2_0.below hB1 | exact (h2_0.kp (Kp.refl _ _).drew).below hB1); have hR_1 := blk_below (by first | exact hR_0 | exact blk_drew hR_0) hB1; have HB_1 := bl_then (by first | exact HB_0 | exact bl_drew HB_0) hB1))
  all_goals
    go_wp2
    refine bodyPost_ret (results_cell_row rfl _ _ (w.heap.size + 1 + 1) 63 #[.int .i64 v, .slice A n c, .int .i64 v', .slice A' n' c'] (0, 0) _ rfl hE.out.2.2 Try.underlying63 rfl (by kernel_rfl)) rfl ?_
    exact ⟨⟨_, _, _, _, _, _, _, _, rfl, by rw [HQ.out]; exact hE.out.1⟩, hE.out.2.1⟩


set_option maxHeartbeats 8000000 in
set_option maxRecDepth 100000 in
theorem rmul_calls (v1 : Int) (A1 : Option Addr) (n1 c1 : Nat) (v1' : Int) (A1' : Option Addr) (n1' c1' : Nat) (q : Rat) (v2 : Int) (A2 : Option Addr) (n2 c2 : Nat) (v2' : Int) (A2' : Option Addr) (n2' c2' : Nat) (r : Rat) (w : World)
    (h1 : RatV w v1 A1 n1 c1 v1' A1' n1' c1' q) (h2 : RatV w v2 A2 n2 c2 v2' A2' n2' c2' r) (k : Nat) (s1 : SzR k q) (s2 : SzR k r) (hk : k ≤ 10000000000) :
    Calls Try.prog 56 #[.agg #[.int .i64 v1, .slice A1 n1 c1, .int .i64 v1', .slice A1' n1' c1'], .agg #[.int .i64 v2, .slice A2 n2 c2, .int .i64 v2', .slice A2' n2' c2']] w fun e w' => RatR e w' (q * r) ∧ Below w.heap.size w w' := by
  have HQ := Lib.hid (rat_mul_eq q r)
  go_enter Try.func56, Try.ntmps56
  go_wp2_with fail
  have B3 := bl_alloc (bl_alloc (bl_alloc (Below.refl w.heap.size w) (.cells #[.int .i64 v1, .slice A1 n1 c1, .int .i64 v1', .slice A1' n1' c1'] 63)) (.cells #[.int .i64 v2, .slice A2 n2 c2, .int .i64 v2', .slice A2' n2' c2'] 63)) (.cells #[.int .i64 0, .slice none 0 0, .int .i64 0, .slice none 0 0] 63)
  have a1 : (((w.alloc (.cells #[.int .i64 v1, .slice A1 n1 c1, .int .i64 v1', .slice A1' n1' c1'] 63)).alloc (.cells #[.int .i64 v2, .slice A2 n2 c2, .int .i64 v2', .slice A2' n2' c2'] 63)).alloc (.cells #[.int .i64 0, .slice none 0 0, .int .i64 0, .slice none 0 0] 63)).heap[w.heap.size]? = some (.cells #[.int .i64 v1, .slice A1 n1 c1, .int .i64 v1', .slice A1' n1' c1'] 63 (0, 0)) := blk_alloc (blk_alloc (blk_at _ rfl) _) _
  have a2 : (((w.alloc (.cells #[.int .i64 v1, .slice A1 n1 c1, .int .i64 v1', .slice A1' n1' c1'] 63)).alloc (.cells #[.int .i64 v2, .slice A2 n2 c2, .int .i64 v2', .slice A2' n2' c2'] 63)).alloc (.cells #[.int .i64 0, .slice none 0 0, .int .i64 0, .slice none 0 0] 63)).heap[w.heap.size + 1]? = some (.cells #[.int .i64 v2, .slice A2 n2 c2, .int .i64 v2', .slice A2' n2' c2'] 63 (0, 0)) := blk_alloc (blk_at _ (by simp)) _
  have a3 : (((w.alloc (.cells #[.int .i64 v1, .slice A1 n1 c1, .int .i64 v1', .slice A1' n1' c1'] 63)).alloc (.cells #[.int .i64 v2, .slice A2 n2 c2, .int .i64 v2', .slice A2' n2' c2'] 63)).alloc (.cells #[.int .i64 0, .slice none 0 0, .int .i64 0, .slice none 0 0] 63)).heap[w.heap.size + 1 + 1]? = some (.cells #[.int .i64 0, .slice none 0 0, .int .i64 0, .slice none 0 0] 63 (0, 0)) := blk_at _ (by simp)
  replace h1 := h1.below B3
  replace h2 := h2.below B3
  generalize ((w.alloc (.cells #[.int .i64 v1, .slice A1 n1 c1, .int .i64 v1', .slice A1' n1' c1'] 63)).alloc (.cells #[.int .i64 v2, .slice A2 n2 c2, .int .i64 v2', .slice A2' n2' c2'] 63)).alloc (.cells #[.int .i64 0, .slice none 0 0, .int .i64 0, .slice none 0 0] 63) = W3 at *
  obtain ⟨⟨p1, p2, p3, p4⟩, p5, p6, p7, p8⟩ := bx4 a1
  obtain ⟨⟨q1, q2, q3, q4⟩, q5, q6, q7, q8⟩ := bx4 a2
  obtain ⟨⟨r1, r2, r3, r4⟩, r5, r6, r7, r8⟩ := bx4 a3
  have hp := q.den_pos
  have hp2 := r.den_pos
  refine (whole_calls v1 A1 n1 c1 v1' A1' n1' c1' q _ h1).mono ?_
  rintro e W4 ⟨rfl, hBw⟩
  replace h1 := h1.below hBw
  replace h2 := h2.below hBw
  replace a1 := blk_below a1 hBw
  replace a2 := blk_below a2 hBw
  replace a3 := blk_below a3 hBw
  replace B3 := bl_then B3 hBw
  clear hBw p1 p2 p3 p4 p5 p6 p7 p8 q1 q2 q3 q4 q5 q6 q7 q8 r1 r2 r3 r4 r5 r6 r7 r8
  obtain ⟨⟨p1, p2, p3, p4⟩, p5, p6, p7, p8⟩ := bx4 a1
  obtain ⟨⟨q1, q2, q3, q4⟩, q5, q6, q7, q8⟩ := bx4 a2
  by_cases hq : q.den = 1
  · rw [decide_eq_true hq]
    go_wp2_with fail
    refine (whole_calls v2 A2 n2 c2 v2' A2' n2' c2' r _ h2).mono ?_
    rintro e W5 ⟨rfl, hBw⟩
    replace h1 := h1.below hBw
    replace h2 := h2.below hBw
    replace a1 := blk_below a1 hBw
    replace a2 := blk_below a2 hBw
    replace a3 := blk_below a3 hBw
    replace B3 := bl_then B3 hBw
    clear hBw p1 p2 p3 p4 p5 p6 p7 p8 q1 q2 q3 q4 q5 q6 q7 q8
    obtain ⟨⟨p1, p2, p3, p4⟩, p5, p6, p7, p8⟩ := bx4 a1
    obtain ⟨⟨q1, q2, q3, q4⟩, q5, q6, q7, q8⟩ := bx4 a2
    by_cases hr : r.den = 1
    · rw [decide_eq_true hr]
      have SM := Lib.hid (rat_mul_int hq hr)
      clear hq hr
      go_wp2_with fail
      refine (mul_calls v1 A1 n1 c1 q.num v2 A2 n2 c2 r.num _ h1.1 h2.1 k s1.1 s2.1 (by omega)).mono ?_
      rintro e W6 ⟨v, A, n, c, rfl, hI, hBw⟩
      replace a3 := blk_below a3 hBw
      replace B3 := bl_then B3 hBw
      clear hBw p1 p2 p3 p4 p5 p6 p7 p8 q1 q2 q3 q4 q5 q6 q7 q8
      have hV : RatV W6 v A n c 0 none 0 0 (q * r) := ⟨by rw [SM.out.1]; exact hI, 0, IntV.small _ (by omega) (by omega), .inr ⟨rfl, SM.out.2⟩⟩
      obtain ⟨⟨r1, r2, r3, r4⟩, r5, r6, r7, r8⟩ := bx4 a3
      have hE := Lib.hid (putRat hV a3 B3 (by omega))
      go_wp2
      refine bodyPost_ret (results_cell_row rfl _ _ (w.heap.size + 1 + 1) 63 #[.int .i64 v, .slice A n c, .int .i64 0, .slice none 0 0] (0, 0) _ rfl hE.out.2.2 Try.underlying63 rfl (by kernel_rfl)) rfl ?_
      exact ⟨⟨_, _, _, _, _, _, _, _, rfl, hE.out.1⟩, hE.out.2.1⟩
    · rw [decide_eq_false hr]
      clear hq hr
      go_upto_region 3 with (fail)
      have h1_0 := h1
      have h2_0 := h2
      have hR_0 := a3
      have HB_0 := B3
      go_region_held3 (fun W => W.cell? ⟨w.heap.size, 0, none⟩ = some (.int .i64 v1) ∧ W.cell? ⟨w.heap.size, 1, none⟩ = some (.slice A1 n1 c1) ∧ W.cell? ⟨w.heap.size, 2, none⟩ = some (.int .i64 v1') ∧ W.cell? ⟨w.heap.size, 3, none⟩ = some (.slice A1' n1' c1') ∧ W.cell? ⟨w.heap.size + 1, 0, none⟩ = some (.int .i64 v2) ∧ W.cell? ⟨w.heap.size + 1, 1, none⟩ = some (.slice A2 n2 c2) ∧ W.cell? ⟨w.heap.size + 1, 2, none⟩ = some (.int .i64 v2') ∧ W.cell? ⟨w.heap.size + 1, 3, none⟩ = some (.slice A2' n2' c2')) (first | exact keep8 hB5 (by assumption) | exact keep8 hB4 (by assumption) | exact keep8 hB3 (by assumption) | exact keep8 hB2 (by assumption) | exact keep8 hB1 (by assumption) | exact ⟨p1, p2, p3, p4, q1, q2, q3, q4⟩ | exact keep8_set4 (by assumption) (by omega) (by omega) | go_keep) (first | (have _hh := hR_4; go_at_call 61; refine (ratio_calls va Aa na ca (q.num * r.num) vd Ad nd cd ((q.den : Int) * (r.den : Int)) _ (by first | exact ta_4 | exact (ta_4.kp (Kp.refl _ _).drew)) (by first | exact td_4 | exact (td_4.kp (Kp.refl _ _).drew)) (k + k) (s1.1.mul s2.1) (s1.2.mul s2.2) (by omega) (Int.mul_ne_zero (by omega) (by omega))).mono ?_; rintro e w5 ⟨⟨v, A, n, c, v', A', n', c', rfl, hV⟩, hB5⟩; have hR_5 := blk_below hR_4 hB5; have HB_5 := bl_then HB_4 hB5; have hE := Lib.hid (putRat hV hR_5 HB_5 (by omega)); obtain ⟨⟨z1, z2, z3, z4⟩, z5, z6, z7, z8⟩ := bx4 hR_5) | (have _hh := hR_3; go_at_call 64; refine (mul_calls vb Ab nb cb (q.den : Int) vc Ac nc cc (r.den : Int) _ (by first | exact tb_3 | exact (tb_3.kp (Kp.refl _ _).drew)) (by first | exact tc_3 | exact (tc_3.kp (Kp.refl _ _).drew)) k s1.2 s2.2 hk).mono ?_; rintro e w4 ⟨vd, Ad, nd, cd, rfl, td_4, hB4⟩; have ta_4 := ta_3.below hB4; have hR_4 := blk_below (by first | exact hR_3 | exact blk_drew hR_3) hB4; have HB_4 := bl_then (by first | exact HB_3 | exact bl_drew HB_3) hB4) | (have _hh := hR_2; go_at_call_of 53 (Value.agg #[.int .i64 v2, .slice A2 n2 c2, .int .i64 v2', .slice A2' n2' c2']); refine (low_calls v2 A2 n2 c2 v2' A2' n2' c2' r _ (by first | exact h2_2 | exact (h2_2.kp (Kp.refl _ _).drew))).mono ?_; rintro e w3 ⟨⟨vc, Ac, nc, cc, rfl, tc_3⟩, hB3⟩; have ta_3 := ta_2.below hB3; have tb_3 := tb_2.below hB3; have hR_3 := blk_below (by first | exact hR_2 | exact blk_drew hR_2) hB3; have HB_3 := bl_then (by first | exact HB_2 | exact bl_drew HB_2) hB3) | (have _hh := hR_1; go_at_call_of 53 (Value.agg #[.int .i64 v1, .slice A1 n1 c1, .int .i64 v1', .slice A1' n1' c1']); refine (low_calls v1 A1 n1 c1 v1' A1' n1' c1' q _ (by first | exact h1_1 | exact (h1_1.kp (Kp.refl _ _).drew))).mono ?_; rintro e w2 ⟨⟨vb, Ab, nb, cb, rfl, tb_2⟩, hB2⟩; have h1_2 := h1_1.below hB2; have h2_2 := h2_1.below hB2; have ta_2 := ta_1.below hB2; have hR_2 := blk_below (by first | exact hR_1 | exact blk_drew hR_1) hB2; have HB_2 := bl_then (by first | exact HB_1 | exact bl_drew HB_1) hB2) | (have _hh := hR_0; go_at_call 64; refine (mul_calls v1 A1 n1 c1 q.num v2 A2 n2 c2 r.num _ (by first | exact h1_0.1 | exact (h1_0.kp (Kp.refl _ _).drew).1) (by first | exact h2_0.1 | exact (h2_0.kp (Kp.refl _ _).drew).1) k s1.1 s2.1 hk).mono ?_; rintro e w1 ⟨va, Aa, na, ca, rfl, ta_1, hB1⟩; have h1_1 := (by first | exact h1_0.below hB1 | exact (h1_0.kp (Kp.refl _ _).drew).below hB1); have h2_1 := (by first | exact h2_0.below hB1 | exact (h2_0.kp (Kp.refl _ _).drew).below hB1); have hR_1 := blk_below (by first | exact hR_0 | exact blk_drew hR_0) hB1; have HB_1 := bl_then (by first | exact HB_0 | exact bl_drew HB_0) hB1))
      all_goals
        go_wp2
        refine bodyPost_ret (results_cell_row rfl _ _ (w.heap.size + 1 + 1) 63 #[.int .i64 v, .slice A n c, .int .i64 v', .slice A' n' c'] (0, 0) _ rfl hE.out.2.2 Try.underlying63 rfl (by kernel_rfl)) rfl ?_
        exact ⟨⟨_, _, _, _, _, _, _, _, rfl, by rw [HQ.out]; exact hE.out.1⟩, hE.out.2.1⟩

  · rw [decide_eq_false hq]
    clear hq
    go_upto_region 3 with (fail)
    have h1_0 := h1
    have h2_0 := h2
    have hR_0 := a3
    have HB_0 := B3
    go_region_held3 (fun W => W.cell? ⟨w.heap.size, 0, none⟩ = some (.int .i64 v1) ∧ W.cell? ⟨w.heap.size, 1, none⟩ = some (.slice A1 n1 c1) ∧ W.cell? ⟨w.heap.size, 2, none⟩ = some (.int .i64 v1') ∧ W.cell? ⟨w.heap.size, 3, none⟩ = some (.slice A1' n1' c1') ∧ W.cell? ⟨w.heap.size + 1, 0, none⟩ = some (.int .i64 v2) ∧ W.cell? ⟨w.heap.size + 1, 1, none⟩ = some (.slice A2 n2 c2) ∧ W.cell? ⟨w.heap.size + 1, 2, none⟩ = some (.int .i64 v2') ∧ W.cell? ⟨w.heap.size + 1, 3, none⟩ = some (.slice A2' n2' c2')) (first | exact keep8 hB5 (by assumption) | exact keep8 hB4 (by assumption) | exact keep8 hB3 (by assumption) | exact keep8 hB2 (by assumption) | exact keep8 hB1 (by assumption) | exact ⟨p1, p2, p3, p4, q1, q2, q3, q4⟩ | exact keep8_set4 (by assumption) (by omega) (by omega) | go_keep) (first | (have _hh := hR_4; go_at_call 61; refine (ratio_calls va Aa na ca (q.num * r.num) vd Ad nd cd ((q.den : Int) * (r.den : Int)) _ (by first | exact ta_4 | exact (ta_4.kp (Kp.refl _ _).drew)) (by first | exact td_4 | exact (td_4.kp (Kp.refl _ _).drew)) (k + k) (s1.1.mul s2.1) (s1.2.mul s2.2) (by omega) (Int.mul_ne_zero (by omega) (by omega))).mono ?_; rintro e w5 ⟨⟨v, A, n, c, v', A', n', c', rfl, hV⟩, hB5⟩; have hR_5 := blk_below hR_4 hB5; have HB_5 := bl_then HB_4 hB5; have hE := Lib.hid (putRat hV hR_5 HB_5 (by omega)); obtain ⟨⟨z1, z2, z3, z4⟩, z5, z6, z7, z8⟩ := bx4 hR_5) | (have _hh := hR_3; go_at_call 64; refine (mul_calls vb Ab nb cb (q.den : Int) vc Ac nc cc (r.den : Int) _ (by first | exact tb_3 | exact (tb_3.kp (Kp.refl _ _).drew)) (by first | exact tc_3 | exact (tc_3.kp (Kp.refl _ _).drew)) k s1.2 s2.2 hk).mono ?_; rintro e w4 ⟨vd, Ad, nd, cd, rfl, td_4, hB4⟩; have ta_4 := ta_3.below hB4; have hR_4 := blk_below (by first | exact hR_3 | exact blk_drew hR_3) hB4; have HB_4 := bl_then (by first | exact HB_3 | exact bl_drew HB_3) hB4) | (have _hh := hR_2; go_at_call_of 53 (Value.agg #[.int .i64 v2, .slice A2 n2 c2, .int .i64 v2', .slice A2' n2' c2']); refine (low_calls v2 A2 n2 c2 v2' A2' n2' c2' r _ (by first | exact h2_2 | exact (h2_2.kp (Kp.refl _ _).drew))).mono ?_; rintro e w3 ⟨⟨vc, Ac, nc, cc, rfl, tc_3⟩, hB3⟩; have ta_3 := ta_2.below hB3; have tb_3 := tb_2.below hB3; have hR_3 := blk_below (by first | exact hR_2 | exact blk_drew hR_2) hB3; have HB_3 := bl_then (by first | exact HB_2 | exact bl_drew HB_2) hB3) | (have _hh := hR_1; go_at_call_of 53 (Value.agg #[.int .i64 v1, .slice A1 n1 c1, .int .i64 v1', .slice A1' n1' c1']); refine (low_calls v1 A1 n1 c1 v1' A1' n1' c1' q _ (by first | exact h1_1 | exact (h1_1.kp (Kp.refl _ _).drew))).mono ?_; rintro e w2 ⟨⟨vb, Ab, nb, cb, rfl, tb_2⟩, hB2⟩; have h1_2 := h1_1.below hB2; have h2_2 := h2_1.below hB2; have ta_2 := ta_1.below hB2; have hR_2 := blk_below (by first | exact hR_1 | exact blk_drew hR_1) hB2; have HB_2 := bl_then (by first | exact HB_1 | exact bl_drew HB_1) hB2) | (have _hh := hR_0; go_at_call 64; refine (mul_calls v1 A1 n1 c1 q.num v2 A2 n2 c2 r.num _ (by first | exact h1_0.1 | exact (h1_0.kp (Kp.refl _ _).drew).1) (by first | exact h2_0.1 | exact (h2_0.kp (Kp.refl _ _).drew).1) k s1.1 s2.1 hk).mono ?_; rintro e w1 ⟨va, Aa, na, ca, rfl, ta_1, hB1⟩; have h1_1 := (by first | exact h1_0.below hB1 | exact (h1_0.kp (Kp.refl _ _).drew).below hB1); have h2_1 := (by first | exact h2_0.below hB1 | exact (h2_0.kp (Kp.refl _ _).drew).below hB1); have hR_1 := blk_below (by first | exact hR_0 | exact blk_drew hR_0) hB1; have HB_1 := bl_then (by first | exact HB_0 | exact bl_drew HB_0) hB1))
    all_goals
      go_wp2
      refine bodyPost_ret (results_cell_row rfl _ _ (w.heap.size + 1 + 1) 63 #[.int .i64 v, .slice A n c, .int .i64 v', .slice A' n' c'] (0, 0) _ rfl hE.out.2.2 Try.underlying63 rfl (by kernel_rfl)) rfl ?_
      exact ⟨⟨_, _, _, _, _, _, _, _, rfl, by rw [HQ.out]; exact hE.out.1⟩, hE.out.2.1⟩



set_option maxHeartbeats 8000000 in
set_option maxRecDepth 100000 in
theorem radd_calls (v1 : Int) (A1 : Option Addr) (n1 c1 : Nat) (v1' : Int) (A1' : Option Addr) (n1' c1' : Nat) (q : Rat) (v2 : Int) (A2 : Option Addr) (n2 c2 : Nat) (v2' : Int) (A2' : Option Addr) (n2' c2' : Nat) (r : Rat) (w : World)
    (h1 : RatV w v1 A1 n1 c1 v1' A1' n1' c1' q) (h2 : RatV w v2 A2 n2 c2 v2' A2' n2' c2' r) (k : Nat) (s1 : SzR k q) (s2 : SzR k r) (hk : k ≤ 10000000000) :
    Calls Try.prog 55 #[.agg #[.int .i64 v1, .slice A1 n1 c1, .int .i64 v1', .slice A1' n1' c1'], .agg #[.int .i64 v2, .slice A2 n2 c2, .int .i64 v2', .slice A2' n2' c2']] w fun e w' => RatR e w' (q + r) ∧ Below w.heap.size w w' := by
  have HQ := Lib.hid (rat_add_eq q r)
  go_enter Try.func55, Try.ntmps55
  go_wp2_with fail
  have B3 := bl_alloc (bl_alloc (bl_alloc (Below.refl w.heap.size w) (.cells #[.int .i64 v1, .slice A1 n1 c1, .int .i64 v1', .slice A1' n1' c1'] 63)) (.cells #[.int .i64 v2, .slice A2 n2 c2, .int .i64 v2', .slice A2' n2' c2'] 63)) (.cells #[.int .i64 0, .slice none 0 0, .int .i64 0, .slice none 0 0] 63)
  have a1 : (((w.alloc (.cells #[.int .i64 v1, .slice A1 n1 c1, .int .i64 v1', .slice A1' n1' c1'] 63)).alloc (.cells #[.int .i64 v2, .slice A2 n2 c2, .int .i64 v2', .slice A2' n2' c2'] 63)).alloc (.cells #[.int .i64 0, .slice none 0 0, .int .i64 0, .slice none 0 0] 63)).heap[w.heap.size]? = some (.cells #[.int .i64 v1, .slice A1 n1 c1, .int .i64 v1', .slice A1' n1' c1'] 63 (0, 0)) := blk_alloc (blk_alloc (blk_at _ rfl) _) _
  have a2 : (((w.alloc (.cells #[.int .i64 v1, .slice A1 n1 c1, .int .i64 v1', .slice A1' n1' c1'] 63)).alloc (.cells #[.int .i64 v2, .slice A2 n2 c2, .int .i64 v2', .slice A2' n2' c2'] 63)).alloc (.cells #[.int .i64 0, .slice none 0 0, .int .i64 0, .slice none 0 0] 63)).heap[w.heap.size + 1]? = some (.cells #[.int .i64 v2, .slice A2 n2 c2, .int .i64 v2', .slice A2' n2' c2'] 63 (0, 0)) := blk_alloc (blk_at _ (by simp)) _
  have a3 : (((w.alloc (.cells #[.int .i64 v1, .slice A1 n1 c1, .int .i64 v1', .slice A1' n1' c1'] 63)).alloc (.cells #[.int .i64 v2, .slice A2 n2 c2, .int .i64 v2', .slice A2' n2' c2'] 63)).alloc (.cells #[.int .i64 0, .slice none 0 0, .int .i64 0, .slice none 0 0] 63)).heap[w.heap.size + 1 + 1]? = some (.cells #[.int .i64 0, .slice none 0 0, .int .i64 0, .slice none 0 0] 63 (0, 0)) := blk_at _ (by simp)
  replace h1 := h1.below B3
  replace h2 := h2.below B3
  generalize ((w.alloc (.cells #[.int .i64 v1, .slice A1 n1 c1, .int .i64 v1', .slice A1' n1' c1'] 63)).alloc (.cells #[.int .i64 v2, .slice A2 n2 c2, .int .i64 v2', .slice A2' n2' c2'] 63)).alloc (.cells #[.int .i64 0, .slice none 0 0, .int .i64 0, .slice none 0 0] 63) = W3 at *
  obtain ⟨⟨p1, p2, p3, p4⟩, p5, p6, p7, p8⟩ := bx4 a1
  obtain ⟨⟨q1, q2, q3, q4⟩, q5, q6, q7, q8⟩ := bx4 a2
  obtain ⟨⟨r1, r2, r3, r4⟩, r5, r6, r7, r8⟩ := bx4 a3
  have hp := q.den_pos
  have hp2 := r.den_pos
  refine (whole_calls v1 A1 n1 c1 v1' A1' n1' c1' q _ h1).mono ?_
  rintro e W4 ⟨rfl, hBw⟩
  replace h1 := h1.below hBw
  replace h2 := h2.below hBw
  replace a1 := blk_below a1 hBw
  replace a2 := blk_below a2 hBw
  replace a3 := blk_below a3 hBw
  replace B3 := bl_then B3 hBw
  clear hBw p1 p2 p3 p4 p5 p6 p7 p8 q1 q2 q3 q4 q5 q6 q7 q8 r1 r2 r3 r4 r5 r6 r7 r8
  obtain ⟨⟨p1, p2, p3, p4⟩, p5, p6, p7, p8⟩ := bx4 a1
  obtain ⟨⟨q1, q2, q3, q4⟩, q5, q6, q7, q8⟩ := bx4 a2
  by_cases hq : q.den = 1
  · rw [decide_eq_true hq]
    go_wp2_with fail
    refine (whole_calls v2 A2 n2 c2 v2' A2' n2' c2' r _ h2).mono ?_
    rintro e W5 ⟨rfl, hBw⟩
    replace h1 := h1.below hBw
    replace h2 := h2.below hBw
    replace a1 := blk_below a1 hBw
    replace a2 := blk_below a2 hBw
    replace a3 := blk_below a3 hBw
    replace B3 := bl_then B3 hBw
    clear hBw p1 p2 p3 p4 p5 p6 p7 p8 q1 q2 q3 q4 q5 q6 q7 q8
    obtain ⟨⟨p1, p2, p3, p4⟩, p5, p6, p7, p8⟩ := bx4 a1
    obtain ⟨⟨q1, q2, q3, q4⟩, q5, q6, q7, q8⟩ := bx4 a2
    by_cases hr : r.den = 1
    · rw [decide_eq_true hr]
      have SM := Lib.hid (rat_add_int hq hr)
      clear hq hr
      go_wp2_with fail
      refine (add_calls v1 A1 n1 c1 q.num v2 A2 n2 c2 r.num _ h1.1 h2.1 k s1.1 s2.1 (by omega)).mono ?_
      rintro e W6 ⟨v, A, n, c, rfl, hI, hBw⟩
      replace a3 := blk_below a3 hBw
      replace B3 := bl_then B3 hBw
      clear hBw p1 p2 p3 p4 p5 p6 p7 p8 q1 q2 q3 q4 q5 q6 q7 q8
      have hV : RatV W6 v A n c 0 none 0 0 (q + r) := ⟨by rw [SM.out.1]; exact hI, 0, IntV.small _ (by omega) (by omega), .inr ⟨rfl, SM.out.2⟩⟩
      obtain ⟨⟨r1, r2, r3, r4⟩, r5, r6, r7, r8⟩ := bx4 a3
      have hE := Lib.hid (putRat hV a3 B3 (by omega))
      go_wp2
      refine bodyPost_ret (results_cell_row rfl _ _ (w.heap.size + 1 + 1) 63 #[.int .i64 v, .slice A n c, .int .i64 0, .slice none 0 0] (0, 0) _ rfl hE.out.2.2 Try.underlying63 rfl (by kernel_rfl)) rfl ?_
      exact ⟨⟨_, _, _, _, _, _, _, _, rfl, hE.out.1⟩, hE.out.2.1⟩
    · rw [decide_eq_false hr]
      clear hq hr
      go_upto_region 3 with (fail)
      have h1_0 := h1
      have h2_0 := h2
      have hR_0 := a3
      have HB_0 := B3
      go_region_held3 (fun W => W.cell? ⟨w.heap.size, 0, none⟩ = some (.int .i64 v1) ∧ W.cell? ⟨w.heap.size, 1, none⟩ = some (.slice A1 n1 c1) ∧ W.cell? ⟨w.heap.size, 2, none⟩ = some (.int .i64 v1') ∧ W.cell? ⟨w.heap.size, 3, none⟩ = some (.slice A1' n1' c1') ∧ W.cell? ⟨w.heap.size + 1, 0, none⟩ = some (.int .i64 v2) ∧ W.cell? ⟨w.heap.size + 1, 1, none⟩ = some (.slice A2 n2 c2) ∧ W.cell? ⟨w.heap.size + 1, 2, none⟩ = some (.int .i64 v2') ∧ W.cell? ⟨w.heap.size + 1, 3, none⟩ = some (.slice A2' n2' c2')) (first | exact keep8 hB9 (by assumption) | exact keep8 hB8 (by assumption) | exact keep8 hB7 (by assumption) | exact keep8 hB6 (by assumption) | exact keep8 hB5 (by assumption) | exact keep8 hB4 (by assumption) | exact keep8 hB3 (by assumption) | exact keep8 hB2 (by assumption) | exact keep8 hB1 (by assumption) | exact ⟨p1, p2, p3, p4, q1, q2, q3, q4⟩ | exact keep8_set4 (by assumption) (by omega) (by omega) | go_keep) (first | (have _hh := hR_8; go_at_call 61; refine (ratio_calls ve Ae ne ce (q.num * (r.den : Int) + r.num * (q.den : Int)) vh Ah nh ch ((q.den : Int) * (r.den : Int)) _ (by first | exact te_8 | exact (te_8.kp (Kp.refl _ _).drew)) (by first | exact th_8 | exact (th_8.kp (Kp.refl _ _).drew)) (k + k + 1) ((s1.1.mul s2.2).add (s2.1.mul s1.2)) ((s1.2.mul s2.2).mono (by omega)) (by omega) (Int.mul_ne_zero (by omega) (by omega))).mono ?_; rintro e w9 ⟨⟨v, A, n, c, v', A', n', c', rfl, hV⟩, hB9⟩; have hR_9 := blk_below hR_8 hB9; have HB_9 := bl_then HB_8 hB9; have hE := Lib.hid (putRat hV hR_9 HB_9 (by omega)); obtain ⟨⟨z1, z2, z3, z4⟩, z5, z6, z7, z8⟩ := bx4 hR_9) | (have _hh := hR_7; go_at_call 64; refine (mul_calls vf Af nf cf (q.den : Int) vg Ag ng cg (r.den : Int) _ (by first | exact tf_7 | exact (tf_7.kp (Kp.refl _ _).drew)) (by first | exact tg_7 | exact (tg_7.kp (Kp.refl _ _).drew)) k s1.2 s2.2 hk).mono ?_; rintro e w8 ⟨vh, Ah, nh, ch, rfl, th_8, hB8⟩; have te_8 := te_7.below hB8; have hR_8 := blk_below (by first | exact hR_7 | exact blk_drew hR_7) hB8; have HB_8 := bl_then (by first | exact HB_7 | exact bl_drew HB_7) hB8) | (have _hh := hR_6; go_at_call_of 53 (Value.agg #[.int .i64 v2, .slice A2 n2 c2, .int .i64 v2', .slice A2' n2' c2']); refine (low_calls v2 A2 n2 c2 v2' A2' n2' c2' r _ (by first | exact h2_6 | exact (h2_6.kp (Kp.refl _ _).drew))).mono ?_; rintro e w7 ⟨⟨vg, Ag, ng, cg, rfl, tg_7⟩, hB7⟩; have te_7 := te_6.below hB7; have tf_7 := tf_6.below hB7; have hR_7 := blk_below (by first | exact hR_6 | exact blk_drew hR_6) hB7; have HB_7 := bl_then (by first | exact HB_6 | exact bl_drew HB_6) hB7) | (have _hh := hR_5; go_at_call_of 53 (Value.agg #[.int .i64 v1, .slice A1 n1 c1, .int .i64 v1', .slice A1' n1' c1']); refine (low_calls v1 A1 n1 c1 v1' A1' n1' c1' q _ (by first | exact h1_5 | exact (h1_5.kp (Kp.refl _ _).drew))).mono ?_; rintro e w6 ⟨⟨vf, Af, nf, cf, rfl, tf_6⟩, hB6⟩; have h1_6 := h1_5.below hB6; have h2_6 := h2_5.below hB6; have te_6 := te_5.below hB6; have hR_6 := blk_below (by first | exact hR_5 | exact blk_drew hR_5) hB6; have HB_6 := bl_then (by first | exact HB_5 | exact bl_drew HB_5) hB6) | (have _hh := hR_4; go_at_call 74; refine (add_calls vb Ab nb cb (q.num * (r.den : Int)) vd Ad nd cd (r.num * (q.den : Int)) _ (by first | exact tb_4 | exact (tb_4.kp (Kp.refl _ _).drew)) (by first | exact td_4 | exact (td_4.kp (Kp.refl _ _).drew)) (k + k) (s1.1.mul s2.2) (s2.1.mul s1.2) (by omega)).mono ?_; rintro e w5 ⟨ve, Ae, ne, ce, rfl, te_5, hB5⟩; have h1_5 := h1_4.below hB5; have h2_5 := h2_4.below hB5; have hR_5 := blk_below (by first | exact hR_4 | exact blk_drew hR_4) hB5; have HB_5 := bl_then (by first | exact HB_4 | exact bl_drew HB_4) hB5) | (have _hh := hR_3; go_at_call 64; refine (mul_calls v2 A2 n2 c2 r.num vc Ac nc cc (q.den : Int) _ (by first | exact h2_3.1 | exact (h2_3.kp (Kp.refl _ _).drew).1) (by first | exact tc_3 | exact (tc_3.kp (Kp.refl _ _).drew)) k s2.1 s1.2 hk).mono ?_; rintro e w4 ⟨vd, Ad, nd, cd, rfl, td_4, hB4⟩; have h1_4 := h1_3.below hB4; have h2_4 := h2_3.below hB4; have tb_4 := tb_3.below hB4; have hR_4 := blk_below (by first | exact hR_3 | exact blk_drew hR_3) hB4; have HB_4 := bl_then (by first | exact HB_3 | exact bl_drew HB_3) hB4) | (have _hh := hR_2; go_at_call_of 53 (Value.agg #[.int .i64 v1, .slice A1 n1 c1, .int .i64 v1', .slice A1' n1' c1']); refine (low_calls v1 A1 n1 c1 v1' A1' n1' c1' q _ (by first | exact h1_2 | exact (h1_2.kp (Kp.refl _ _).drew))).mono ?_; rintro e w3 ⟨⟨vc, Ac, nc, cc, rfl, tc_3⟩, hB3⟩; have h1_3 := h1_2.below hB3; have h2_3 := h2_2.below hB3; have tb_3 := tb_2.below hB3; have hR_3 := blk_below (by first | exact hR_2 | exact blk_drew hR_2) hB3; have HB_3 := bl_then (by first | exact HB_2 | exact bl_drew HB_2) hB3) | (have _hh := hR_1; go_at_call 64; refine (mul_calls v1 A1 n1 c1 q.num va Aa na ca (r.den : Int) _ (by first | exact h1_1.1 | exact (h1_1.kp (Kp.refl _ _).drew).1) (by first | exact ta_1 | exact (ta_1.kp (Kp.refl _ _).drew)) k s1.1 s2.2 hk).mono ?_; rintro e w2 ⟨vb, Ab, nb, cb, rfl, tb_2, hB2⟩; have h1_2 := h1_1.below hB2; have h2_2 := h2_1.below hB2; have hR_2 := blk_below (by first | exact hR_1 | exact blk_drew hR_1) hB2; have HB_2 := bl_then (by first | exact HB_1 | exact bl_drew HB_1) hB2) | (have _hh := hR_0; go_at_call_of 53 (Value.agg #[.int .i64 v2, .slice A2 n2 c2, .int .i64 v2', .slice A2' n2' c2']); refine (low_calls v2 A2 n2 c2 v2' A2' n2' c2' r _ (by first | exact h2_0 | exact (h2_0.kp (Kp.refl _ _).drew))).mono ?_; rintro e w1 ⟨⟨va, Aa, na, ca, rfl, ta_1⟩, hB1⟩; have h1_1 := (by first | exact h1_0.below hB1 | exact (h1_0.kp (Kp.refl _ _).drew).below hB1); have h2_1 := (by first | exact h2_0.below hB1 | exact (h2_0.kp (Kp.refl _ _).drew).below hB1); have hR_1 := blk_below (by first | exact hR_0 | exact blk_drew hR_0) hB1; have HB_1 := bl_then (by first | exact HB_0 | exact bl_drew HB_0) hB1))
      all_goals
        go_wp2
        refine bodyPost_ret (results_cell_row rfl _ _ (w.heap.size + 1 + 1) 63 #[.int .i64 v, .slice A n c, .int .i64 v', .slice A' n' c'] (0, 0) _ rfl hE.out.2.2 Try.underlying63 rfl (by kernel_rfl)) rfl ?_
        exact ⟨⟨_, _, _, _, _, _, _, _, rfl, by rw [HQ.out]; exact hE.out.1⟩, hE.out.2.1⟩

  · rw [decide_eq_false hq]
    clear hq
    go_upto_region 3 with (fail)
    have h1_0 := h1
    have h2_0 := h2
    have hR_0 := a3
    have HB_0 := B3
    go_region_held3 (fun W => W.cell? ⟨w.heap.size, 0, none⟩ = some (.int .i64 v1) ∧ W.cell? ⟨w.heap.size, 1, none⟩ = some (.slice A1 n1 c1) ∧ W.cell? ⟨w.heap.size, 2, none⟩ = some (.int .i64 v1') ∧ W.cell? ⟨w.heap.size, 3, none⟩ = some (.slice A1' n1' c1') ∧ W.cell? ⟨w.heap.size + 1, 0, none⟩ = some (.int .i64 v2) ∧ W.cell? ⟨w.heap.size + 1, 1, none⟩ = some (.slice A2 n2 c2) ∧ W.cell? ⟨w.heap.size + 1, 2, none⟩ = some (.int .i64 v2') ∧ W.cell? ⟨w.heap.size + 1, 3, none⟩ = some (.slice A2' n2' c2')) (first | exact keep8 hB9 (by assumption) | exact keep8 hB8 (by assumption) | exact keep8 hB7 (by assumption) | exact keep8 hB6 (by assumption) | exact keep8 hB5 (by assumption) | exact keep8 hB4 (by assumption) | exact keep8 hB3 (by assumption) | exact keep8 hB2 (by assumption) | exact keep8 hB1 (by assumption) | exact ⟨p1, p2, p3, p4, q1, q2, q3, q4⟩ | exact keep8_set4 (by assumption) (by omega) (by omega) | go_keep) (first | (have _hh := hR_8; go_at_call 61; refine (ratio_calls ve Ae ne ce (q.num * (r.den : Int) + r.num * (q.den : Int)) vh Ah nh ch ((q.den : Int) * (r.den : Int)) _ (by first | exact te_8 | exact (te_8.kp (Kp.refl _ _).drew)) (by first | exact th_8 | exact (th_8.kp (Kp.refl _ _).drew)) (k + k + 1) ((s1.1.mul s2.2).add (s2.1.mul s1.2)) ((s1.2.mul s2.2).mono (by omega)) (by omega) (Int.mul_ne_zero (by omega) (by omega))).mono ?_; rintro e w9 ⟨⟨v, A, n, c, v', A', n', c', rfl, hV⟩, hB9⟩; have hR_9 := blk_below hR_8 hB9; have HB_9 := bl_then HB_8 hB9; have hE := Lib.hid (putRat hV hR_9 HB_9 (by omega)); obtain ⟨⟨z1, z2, z3, z4⟩, z5, z6, z7, z8⟩ := bx4 hR_9) | (have _hh := hR_7; go_at_call 64; refine (mul_calls vf Af nf cf (q.den : Int) vg Ag ng cg (r.den : Int) _ (by first | exact tf_7 | exact (tf_7.kp (Kp.refl _ _).drew)) (by first | exact tg_7 | exact (tg_7.kp (Kp.refl _ _).drew)) k s1.2 s2.2 hk).mono ?_; rintro e w8 ⟨vh, Ah, nh, ch, rfl, th_8, hB8⟩; have te_8 := te_7.below hB8; have hR_8 := blk_below (by first | exact hR_7 | exact blk_drew hR_7) hB8; have HB_8 := bl_then (by first | exact HB_7 | exact bl_drew HB_7) hB8) | (have _hh := hR_6; go_at_call_of 53 (Value.agg #[.int .i64 v2, .slice A2 n2 c2, .int .i64 v2', .slice A2' n2' c2']); refine (low_calls v2 A2 n2 c2 v2' A2' n2' c2' r _ (by first | exact h2_6 | exact (h2_6.kp (Kp.refl _ _).drew))).mono ?_; rintro e w7 ⟨⟨vg, Ag, ng, cg, rfl, tg_7⟩, hB7⟩; have te_7 := te_6.below hB7; have tf_7 := tf_6.below hB7; have hR_7 := blk_below (by first | exact hR_6 | exact blk_drew hR_6) hB7; have HB_7 := bl_then (by first | exact HB_6 | exact bl_drew HB_6) hB7) | (have _hh := hR_5; go_at_call_of 53 (Value.agg #[.int .i64 v1, .slice A1 n1 c1, .int .i64 v1', .slice A1' n1' c1']); refine (low_calls v1 A1 n1 c1 v1' A1' n1' c1' q _ (by first | exact h1_5 | exact (h1_5.kp (Kp.refl _ _).drew))).mono ?_; rintro e w6 ⟨⟨vf, Af, nf, cf, rfl, tf_6⟩, hB6⟩; have h1_6 := h1_5.below hB6; have h2_6 := h2_5.below hB6; have te_6 := te_5.below hB6; have hR_6 := blk_below (by first | exact hR_5 | exact blk_drew hR_5) hB6; have HB_6 := bl_then (by first | exact HB_5 | exact bl_drew HB_5) hB6) | (have _hh := hR_4; go_at_call 74; refine (add_calls vb Ab nb cb (q.num * (r.den : Int)) vd Ad nd cd (r.num * (q.den : Int)) _ (by first | exact tb_4 | exact (tb_4.kp (Kp.refl _ _).drew)) (by first | exact td_4 | exact (td_4.kp (Kp.refl _ _).drew)) (k + k) (s1.1.mul s2.2) (s2.1.mul s1.2) (by omega)).mono ?_; rintro e w5 ⟨ve, Ae, ne, ce, rfl, te_5, hB5⟩; have h1_5 := h1_4.below hB5; have h2_5 := h2_4.below hB5; have hR_5 := blk_below (by first | exact hR_4 | exact blk_drew hR_4) hB5; have HB_5 := bl_then (by first | exact HB_4 | exact bl_drew HB_4) hB5) | (have _hh := hR_3; go_at_call 64; refine (mul_calls v2 A2 n2 c2 r.num vc Ac nc cc (q.den : Int) _ (by first | exact h2_3.1 | exact (h2_3.kp (Kp.refl _ _).drew).1) (by first | exact tc_3 | exact (tc_3.kp (Kp.refl _ _).drew)) k s2.1 s1.2 hk).mono ?_; rintro e w4 ⟨vd, Ad, nd, cd, rfl, td_4, hB4⟩; have h1_4 := h1_3.below hB4; have h2_4 := h2_3.below hB4; have tb_4 := tb_3.below hB4; have hR_4 := blk_below (by first | exact hR_3 | exact blk_drew hR_3) hB4; have HB_4 := bl_then (by first | exact HB_3 | exact bl_drew HB_3) hB4) | (have _hh := hR_2; go_at_call_of 53 (Value.agg #[.int .i64 v1, .slice A1 n1 c1, .int .i64 v1', .slice A1' n1' c1']); refine (low_calls v1 A1 n1 c1 v1' A1' n1' c1' q _ (by first | exact h1_2 | exact (h1_2.kp (Kp.refl _ _).drew))).mono ?_; rintro e w3 ⟨⟨vc, Ac, nc, cc, rfl, tc_3⟩, hB3⟩; have h1_3 := h1_2.below hB3; have h2_3 := h2_2.below hB3; have tb_3 := tb_2.below hB3; have hR_3 := blk_below (by first | exact hR_2 | exact blk_drew hR_2) hB3; have HB_3 := bl_then (by first | exact HB_2 | exact bl_drew HB_2) hB3) | (have _hh := hR_1; go_at_call 64; refine (mul_calls v1 A1 n1 c1 q.num va Aa na ca (r.den : Int) _ (by first | exact h1_1.1 | exact (h1_1.kp (Kp.refl _ _).drew).1) (by first | exact ta_1 | exact (ta_1.kp (Kp.refl _ _).drew)) k s1.1 s2.2 hk).mono ?_; rintro e w2 ⟨vb, Ab, nb, cb, rfl, tb_2, hB2⟩; have h1_2 := h1_1.below hB2; have h2_2 := h2_1.below hB2; have hR_2 := blk_below (by first | exact hR_1 | exact blk_drew hR_1) hB2; have HB_2 := bl_then (by first | exact HB_1 | exact bl_drew HB_1) hB2) | (have _hh := hR_0; go_at_call_of 53 (Value.agg #[.int .i64 v2, .slice A2 n2 c2, .int .i64 v2', .slice A2' n2' c2']); refine (low_calls v2 A2 n2 c2 v2' A2' n2' c2' r _ (by first | exact h2_0 | exact (h2_0.kp (Kp.refl _ _).drew))).mono ?_; rintro e w1 ⟨⟨va, Aa, na, ca, rfl, ta_1⟩, hB1⟩; have h1_1 := (by first | exact h1_0.below hB1 | exact (h1_0.kp (Kp.refl _ _).drew).below hB1); have h2_1 := (by first | exact h2_0.below hB1 | exact (h2_0.kp (Kp.refl _ _).drew).below hB1); have hR_1 := blk_below (by first | exact hR_0 | exact blk_drew hR_0) hB1; have HB_1 := bl_then (by first | exact HB_0 | exact bl_drew HB_0) hB1))
    all_goals
      go_wp2
      refine bodyPost_ret (results_cell_row rfl _ _ (w.heap.size + 1 + 1) 63 #[.int .i64 v, .slice A n c, .int .i64 v', .slice A' n' c'] (0, 0) _ rfl hE.out.2.2 Try.underlying63 rfl (by kernel_rfl)) rfl ?_
      exact ⟨⟨_, _, _, _, _, _, _, _, rfl, by rw [HQ.out]; exact hE.out.1⟩, hE.out.2.1⟩



end Go.Proofs.Ytjmbpeniibdnoaa
