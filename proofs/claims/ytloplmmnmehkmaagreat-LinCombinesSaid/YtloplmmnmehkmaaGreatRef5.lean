/- reference: Plus, Less. -/
import Derived.Test.YtloplmmnmehkmaaGreatRef4
import Derived.Test.YtloplmmnmehkmaaGreatGcd
set_option linter.unusedVariables false
set_option linter.unusedSimpArgs false
namespace Go.Proofs.YtloplmmnmehkmaaGreat
open Go.RowKit

theorem rlen_of_sz {ds : List Int} {k : Nat} {x : Int} (hd : Dig 1073741824 ds) (ht : Trimmed ds) (hv : val 1073741824 ds = (x.natAbs : Int)) (hs : Sz k x) (hk : k ≤ 29999999970) : ds.length ≤ 1000000000 := by
  by_cases e : ds = []
  · rw [e]; simp
  · have h1 := Trimmed.le (by omega) hd ht e
    have h2 : (2 : Nat) ^ (30 * (ds.length - 1)) < 2 ^ k := by
      refine Nat.lt_of_le_of_lt ?_ hs
      have h3 : ((1073741824 : Int) ^ (ds.length - 1)).natAbs ≤ x.natAbs := by
        have := pow_pos' (B := 1073741824) (by omega) (ds.length - 1)
        omega
      rw [Int.natAbs_pow] at h3
      rw [Nat.pow_mul]
      exact h3
    have h4 := (Nat.pow_lt_pow_iff_right (by omega : 1 < 2)).1 h2
    omega
theorem keep6 {w wx : World} {a1 a2 a3 a4 a5 a6 : Addr} {x1 x2 x3 x4 x5 x6 : Value} (hb : Below w.heap.size w wx) (h : w.cell? a1 = some x1 ∧ w.cell? a2 = some x2 ∧ w.cell? a3 = some x3 ∧ w.cell? a4 = some x4 ∧ w.cell? a5 = some x5 ∧ w.cell? a6 = some x6) :
    wx.cell? a1 = some x1 ∧ wx.cell? a2 = some x2 ∧ wx.cell? a3 = some x3 ∧ wx.cell? a4 = some x4 ∧ wx.cell? a5 = some x5 ∧ wx.cell? a6 = some x6 :=
  ⟨cell_later hb h.1, cell_later hb h.2.1, cell_later hb h.2.2.1, cell_later hb h.2.2.2.1, cell_later hb h.2.2.2.2.1, cell_later hb h.2.2.2.2.2⟩
theorem keep6_set1 {w : World} {a1 a2 a3 a4 a5 a6 : Addr} {x1 x2 x3 x4 x5 x6 : Value} {g i : Nat} {u : Value} (h : w.cell? a1 = some x1 ∧ w.cell? a2 = some x2 ∧ w.cell? a3 = some x3 ∧ w.cell? a4 = some x4 ∧ w.cell? a5 = some x5 ∧ w.cell? a6 = some x6) (e1 : a1.block ≠ g) (e2 : a2.block ≠ g) (e3 : a3.block ≠ g) (e4 : a4.block ≠ g) (e5 : a5.block ≠ g) (e6 : a6.block ≠ g) :
    (w.setCell ⟨g, i, none⟩ u).cell? a1 = some x1 ∧ (w.setCell ⟨g, i, none⟩ u).cell? a2 = some x2 ∧ (w.setCell ⟨g, i, none⟩ u).cell? a3 = some x3 ∧ (w.setCell ⟨g, i, none⟩ u).cell? a4 = some x4 ∧ (w.setCell ⟨g, i, none⟩ u).cell? a5 = some x5 ∧ (w.setCell ⟨g, i, none⟩ u).cell? a6 = some x6 :=
  ⟨cell_far h.1 g i u e1, cell_far h.2.1 g i u e2, cell_far h.2.2.1 g i u e3, cell_far h.2.2.2.1 g i u e4, cell_far h.2.2.2.2.1 g i u e5, cell_far h.2.2.2.2.2 g i u e6⟩
theorem keep6_set3 {w : World} {ga gb g : Nat} {x1 x2 x3 x4 x5 x6 y1 y2 y3 : Value} (h : w.cell? ⟨ga, 0, none⟩ = some x1 ∧ w.cell? ⟨ga, 1, none⟩ = some x2 ∧ w.cell? ⟨ga, 2, none⟩ = some x3 ∧ w.cell? ⟨gb, 0, none⟩ = some x4 ∧ w.cell? ⟨gb, 1, none⟩ = some x5 ∧ w.cell? ⟨gb, 2, none⟩ = some x6) (ea : ga ≠ g) (eb : gb ≠ g) :
    let W := ((w.setCell ⟨g, 0, none⟩ y1).setCell ⟨g, 1, none⟩ y2).setCell ⟨g, 2, none⟩ y3
    W.cell? ⟨ga, 0, none⟩ = some x1 ∧ W.cell? ⟨ga, 1, none⟩ = some x2 ∧ W.cell? ⟨ga, 2, none⟩ = some x3 ∧ W.cell? ⟨gb, 0, none⟩ = some x4 ∧ W.cell? ⟨gb, 1, none⟩ = some x5 ∧ W.cell? ⟨gb, 2, none⟩ = some x6 :=
  keep6_set1 (keep6_set1 (keep6_set1 h ea ea ea eb eb eb) ea ea ea eb eb eb) ea ea ea eb eb eb
theorem putR {w W : World} {s : Int} {b : Bool} {A : Option Addr} {n c : Nat} {x : Int} {g : Nat} {a d e : Value} (h : RV W s b A n c x) (hb : W.heap[g]? = some (.cells #[a, d, e] 49 (0, 0))) (hB : Below w.heap.size w W) (hg : w.heap.size ≤ g) :
    let W' := ((W.setCell ⟨g, 0, none⟩ (.int .i64 s)).setCell ⟨g, 1, none⟩ (.bool b)).setCell ⟨g, 2, none⟩ (.slice A n c)
    RV W' s b A n c x ∧ Below w.heap.size w W' ∧ W'.heap[g]? = some (.cells #[.int .i64 s, .bool b, .slice A n c] 49 (0, 0)) :=
  ⟨h.kp (kp_set3 hb _ _ _), bl_set (bl_set (bl_set hB hg _) hg _) hg _, blk_set3 hb _ _ _⟩
theorem RV.zero {w : World} {s : Int} {g : Bool} {A : Option Addr} {c : Nat} {x : Int} (h : RV w s g A 0 c x) : s = x ∧ -2305843009213693952 < x ∧ x < 2305843009213693952 ∧ A = none ∧ c = 0 ∧ g = false := by
  rcases h with ⟨h1, _, h2, h3, h4, h5, h6⟩ | ⟨h1, _⟩
  · exact ⟨h4, h5, h6, h1, h2, h3⟩
  · omega
theorem rsums {x y X Y : Int} {g h : Bool} (hX : X = (x.natAbs : Int)) (hY : Y = (y.natAbs : Int)) (hg : decide (x < 0) = g) (hh : decide (y < 0) = h) :
    (g = h → (if g = true then -(X + Y) else X + Y) = x + y) ∧
    (g ≠ h → (if g = true then -(X - Y) else X - Y) = x + y ∧ (if h = true then -(Y - X) else Y - X) = x + y) := by
  subst hg hh
  by_cases a : x < 0 <;> by_cases b : y < 0 <;> simp [a, b] <;> omega

set_option maxHeartbeats 8000000 in
set_option maxRecDepth 100000 in
theorem rplus_calls (s1 : Int) (b1 : Bool) (A1 : Option Addr) (n1 c1 : Nat) (x : Int) (s2 : Int) (b2 : Bool) (A2 : Option Addr) (n2 c2 : Nat) (y : Int) (w : World) (h1 : RV w s1 b1 A1 n1 c1 x) (h2 : RV w s2 b2 A2 n2 c2 y) (k : Nat) (z1 : Sz k x) (z2 : Sz k y) (hk : k ≤ 20000000000) :
    Calls Tryz.prog 79 #[.agg #[.int .i64 s1, .bool b1, .slice A1 n1 c1], .agg #[.int .i64 s2, .bool b2, .slice A2 n2 c2]] w fun e w' => RIntR e w' (x + y) ∧ Below w.heap.size w w' := by
  by_cases hs : n1 = 0 ∧ n2 = 0
  · obtain ⟨rfl, rfl⟩ := hs
    obtain ⟨rfl, a1, a2, rfl, rfl, rfl⟩ := h1.zero
    obtain ⟨rfl, d1, d2, rfl, rfl, rfl⟩ := h2.zero
    clear h1 h2 z1 z2 hk
    go_enter Tryz.func79, Tryz.ntmps79
    go_wp2_with fail
    refine (rof_calls (s1 + s2) _ (by omega) (by omega)).mono ?_
    rintro e w1 ⟨⟨s, b, A, n, c, rfl, hI⟩, hB1⟩
    have hbR := blk_below (blk_at (g := w.heap.size + 1 + 1) _ (by simp)) hB1
    have HB := bl_then (bl_alloc (bl_alloc (bl_alloc (Below.refl w.heap.size w) _) _) _) hB1
    obtain ⟨⟨q1, q2, q3⟩, q4, q5, q6⟩ := bx3 hbR
    have hE := Lib.hid (putR hI hbR HB (by omega))
    clear hB1
    go_wp2
    refine bodyPost_ret (results_cell_row rfl _ _ (w.heap.size + 1 + 1) 49 #[.int .i64 s, .bool b, .slice A n c] (0, 0) _ rfl hE.out.2.2 Tryz.underlying49 rfl (by kernel_rfl)) rfl ?_
    exact ⟨⟨_, _, _, _, _, rfl, hE.out.1⟩, hE.out.2.1⟩
  · have hc : ((n1 : Int) == 0) = false ∨ ((n1 : Int) == 0) = true ∧ ((n2 : Int) == 0) = false := by
      rcases Nat.eq_zero_or_pos n1 with h | h
      · rcases Nat.eq_zero_or_pos n2 with h' | h'
        · exact absurd ⟨h, h'⟩ hs
        · exact .inr ⟨by simp [h], by simp; omega⟩
      · exact .inl (by simp; omega)
    clear hs
    go_enter Tryz.func79, Tryz.ntmps79
    go_upto_region 1 with (fail)
    have B3 := bl_alloc (bl_alloc (bl_alloc (Below.refl w.heap.size w) (.cells #[.int .i64 s1, .bool b1, .slice A1 n1 c1] 49)) (.cells #[.int .i64 s2, .bool b2, .slice A2 n2 c2] 49)) (.cells #[.int .i64 0, .bool false, .slice none 0 0] 49)
    have a1 : (((w.alloc (.cells #[.int .i64 s1, .bool b1, .slice A1 n1 c1] 49)).alloc (.cells #[.int .i64 s2, .bool b2, .slice A2 n2 c2] 49)).alloc (.cells #[.int .i64 0, .bool false, .slice none 0 0] 49)).heap[w.heap.size]? = some (.cells #[.int .i64 s1, .bool b1, .slice A1 n1 c1] 49 (0, 0)) := blk_alloc (blk_alloc (blk_at _ rfl) _) _
    have a2 : (((w.alloc (.cells #[.int .i64 s1, .bool b1, .slice A1 n1 c1] 49)).alloc (.cells #[.int .i64 s2, .bool b2, .slice A2 n2 c2] 49)).alloc (.cells #[.int .i64 0, .bool false, .slice none 0 0] 49)).heap[w.heap.size + 1]? = some (.cells #[.int .i64 s2, .bool b2, .slice A2 n2 c2] 49 (0, 0)) := blk_alloc (blk_at _ (by simp)) _
    have a3 : (((w.alloc (.cells #[.int .i64 s1, .bool b1, .slice A1 n1 c1] 49)).alloc (.cells #[.int .i64 s2, .bool b2, .slice A2 n2 c2] 49)).alloc (.cells #[.int .i64 0, .bool false, .slice none 0 0] 49)).heap[w.heap.size + 1 + 1]? = some (.cells #[.int .i64 0, .bool false, .slice none 0 0] 49 (0, 0)) := blk_at _ (by simp)
    replace h1 := h1.below B3
    replace h2 := h2.below B3
    generalize ((w.alloc (.cells #[.int .i64 s1, .bool b1, .slice A1 n1 c1] 49)).alloc (.cells #[.int .i64 s2, .bool b2, .slice A2 n2 c2] 49)).alloc (.cells #[.int .i64 0, .bool false, .slice none 0 0] 49) = W3 at *
    obtain ⟨⟨p1, p2, p3⟩, p4, p5, p6⟩ := bx3 a1
    obtain ⟨⟨q1, q2, q3⟩, q4, q5, q6⟩ := bx3 a2
    go_cut [18] (fun t wc => t = .bool false ∧ wc = W3)
    case first =>
      rcases hc with hc | ⟨hc, hc'⟩
      · go_wp2
        go_meet
        case rel => exact ⟨rfl, rfl⟩
      · go_wp2
        go_meet
        case rel => exact ⟨rfl, rfl⟩
    case rest =>
      obtain ⟨rfl, rfl⟩ := hcut
      go_upto_region 3 with (fail)
      go_region_held3 (fun W => W.cell? ⟨w.heap.size, 0, none⟩ = some (.int .i64 s1) ∧ W.cell? ⟨w.heap.size, 1, none⟩ = some (.bool b1) ∧ W.cell? ⟨w.heap.size, 2, none⟩ = some (.slice A1 n1 c1) ∧ W.cell? ⟨w.heap.size + 1, 0, none⟩ = some (.int .i64 s2) ∧ W.cell? ⟨w.heap.size + 1, 1, none⟩ = some (.bool b2) ∧ W.cell? ⟨w.heap.size + 1, 2, none⟩ = some (.slice A2 n2 c2)) (first | exact keep6 hB2 (by assumption) | exact keep6 hB1 (by assumption) | exact ⟨p1, p2, p3, q1, q2, q3⟩ | go_keep) (first | (have _hh := hD_1; go_at_call_of 126 (Value.agg #[.int .i64 s2, .bool b2, .slice A2 n2 c2]); refine (rlist_calls s2 b2 A2 n2 c2 y _ h2_1).mono ?_; rintro e w2 ⟨Y2, m2, d2, rfl, hd2, ys, hE2, hk2, ht2, hv2, hB2⟩) | (go_at_call_of 126 (Value.agg #[.int .i64 s1, .bool b1, .slice A1 n1 c1]); refine (rlist_calls s1 b1 A1 n1 c1 x _ (by first | exact h1 | exact h1.kp (Kp.refl _ _).drew)).mono ?_; rintro e w1 ⟨Y1, m1, d1, rfl, hd1, xs, hD_1, hk1, ht1, hv1, hB1⟩; have h2_1 := (h2.kp (Kp.refl _ _).drew).below hB1))
      have l1 := rlen_of_sz hk1 ht1 hv1 z1 (by omega)
      have l2 := rlen_of_sz hk2 ht2 hv2 z2 (by omega)
      rw [hD_1.1] at l1
      rw [hE2.1] at l2
      replace h1 := ((h1.kp (Kp.refl _ _).drew).below hB1).below hB2
      replace h2 := h2_1.below hB2
      replace a1 := blk_below (blk_below (blk_drew a1) hB1) hB2
      replace a2 := blk_below (blk_below (blk_drew a2) hB1) hB2
      replace a3 := blk_below (blk_below (blk_drew a3) hB1) hB2
      replace B3 := bl_then (bl_then (bl_drew B3) hB1) hB2
      have hD1 := hD_1.below hB2
      clear hB1 hB2 h2_1 _hh hD_1 p1 p2 p3 p4 p5 p6 q1 q2 q3 q4 q5 q6 hc
      obtain ⟨⟨p1, p2, p3⟩, p4, p5, p6⟩ := bx3 a1
      obtain ⟨⟨q1, q2, q3⟩, q4, q5, q6⟩ := bx3 a2
      go_upto_region 4 with (fail)
      go_region_held3 (fun W => W.cell? ⟨w.heap.size, 0, none⟩ = some (.int .i64 s1) ∧ W.cell? ⟨w.heap.size, 1, none⟩ = some (.bool b1) ∧ W.cell? ⟨w.heap.size, 2, none⟩ = some (.slice A1 n1 c1) ∧ W.cell? ⟨w.heap.size + 1, 0, none⟩ = some (.int .i64 s2) ∧ W.cell? ⟨w.heap.size + 1, 1, none⟩ = some (.bool b2) ∧ W.cell? ⟨w.heap.size + 1, 2, none⟩ = some (.slice A2 n2 c2)) (first | exact keep6 hB2 (by assumption) | exact keep6 hB1 (by assumption) | exact ⟨p1, p2, p3, q1, q2, q3⟩ | go_keep) (first | (have _hh := h2_1; go_at_call_of 80 (Value.agg #[.int .i64 s2, .bool b2, .slice A2 n2 c2]); refine (rsign_int_calls s2 b2 A2 n2 c2 y _ h2_1).mono ?_; rintro e w4 ⟨rfl, hB2⟩) | (go_at_call_of 80 (Value.agg #[.int .i64 s1, .bool b1, .slice A1 n1 c1]); refine (rsign_int_calls s1 b1 A1 n1 c1 x _ (by first | exact h1 | exact h1.kp (Kp.refl _ _).drew)).mono ?_; rintro e w3 ⟨rfl, hB1⟩; have h2_1 := (h2.kp (Kp.refl _ _).drew).below hB1))
      replace a3 := blk_below (blk_below (blk_drew a3) hB1) hB2
      replace B3 := bl_then (bl_then (bl_drew B3) hB1) hB2
      replace hD1 := ((hD1.kp (Kp.refl _ _).drew).below hB1).below hB2
      replace hE2 := ((hE2.kp (Kp.refl _ _).drew).below hB1).below hB2
      clear hB1 hB2 h2_1 _hh p1 p2 p3 p4 p5 p6 q1 q2 q3 q4 q5 q6 a1 a2 h1 h2
      have VX := Lib.hid hv1
      have VY := Lib.hid hv2
      have T1 := Lib.hid ht1
      have T2 := Lib.hid ht2
      clear hv1 hv2
      generalize hg1 : decide (x < 0) = g1 at *
      generalize hg2 : decide (y < 0) = g2 at *
      have SUM := Lib.hid (rsums VX.out VY.out hg1 hg2)
      clear hg1 hg2
      by_cases hg : g1 = g2
      · have EQ := Lib.hid (SUM.out.1 hg)
        subst hg
        cases g1
        all_goals
          go_wp2_with fail
          refine (rsum_calls _ _ _ xs _ _ _ ys _ hD1 hE2 hk1 hk2 (by omega) (by omega)).mono ?_
          rintro e w5 ⟨A, n, c, ds, rfl, hc5, hn5, hr5, hk5, hv5, hB5⟩
          replace a3 := blk_below a3 hB5
          replace B3 := bl_then B3 hB5
          have HV5 := Lib.hid hv5
          clear hB5 hn5 hv5
          go_wp2_with fail
          refine (rmade_calls _ A n c ds _ hr5 hk5 hc5).mono ?_
          rintro e w6 ⟨⟨s, b, A, n, c, rfl, hI⟩, hB6⟩
          replace a3 := blk_below a3 hB6
          replace B3 := bl_then B3 hB6
          clear hB6
          obtain ⟨⟨z1, z2, z3⟩, z4, z5, z6⟩ := bx3 a3
          rw [HV5.out] at hI
          replace hI : RV w6 s b A n c (x + y) := by
            have e := EQ.out
            simp only [if_true, if_false, Bool.false_eq_true, ↓reduceIte] at e hI
            rw [e] at hI
            exact hI
          have hE := Lib.hid (putR hI a3 B3 (by omega))
          go_wp2
          refine bodyPost_ret (results_cell_row rfl _ _ (w.heap.size + 1 + 1) 49 #[.int .i64 s, .bool b, .slice A n c] (0, 0) _ rfl hE.out.2.2 Tryz.underlying49 rfl (by kernel_rfl)) rfl ?_
          exact ⟨⟨_, _, _, _, _, rfl, hE.out.1⟩, hE.out.2.1⟩
      · have EQ := Lib.hid (SUM.out.2 hg)
        have qg : (g1 == g2) = false := by simpa using hg
        clear hg
        go_wp2_with fail
        refine (rcompare_calls _ _ _ xs _ _ _ ys _ hD1 hE2 hk1 hk2 ht1 ht2).mono ?_
        rintro e w5 ⟨rfl, nd, rfl⟩
        replace hD1 := hD1.kp ((Kp.refl _ _).drewN nd)
        replace hE2 := hE2.kp ((Kp.refl _ _).drewN nd)
        by_cases hle : val 1073741824 ys ≤ val 1073741824 xs
        · have hsg : 0 ≤ (val 1073741824 xs - val 1073741824 ys).sign := Int.sign_nonneg_iff.2 (by omega)
          have hlen : m2 ≤ m1 := by
            rcases Nat.lt_or_ge m1 m2 with h | h
            · have := val_lt_len (B := 1073741824) (by omega) hk1 hk2 T2.out (by rw [hD1.1, hE2.1]; exact h)
              omega
            · exact h
          have hle' := Lib.hid hle
          clear hle
          generalize (val 1073741824 xs - val 1073741824 ys).sign = sg at *
          go_wp2_with fail
          refine (rdifference_calls _ _ _ xs _ _ _ ys _ hD1 hE2 hk1 hk2 (by omega) (fun i hi => getD_beyond _ _ (by have := hlen; have := hD1.1; have := hE2.1; omega)) hle'.out).mono ?_
          rintro e w5 ⟨A, n, c, ds, rfl, hc5, hn5, hr5, hk5, hv5, hB5⟩
          replace a3 := blk_below (blk_drewN a3 nd) hB5
          replace B3 := bl_then (bl_drewN B3 nd) hB5
          have HV5 := Lib.hid hv5
          clear hB5 hn5 hv5
          go_wp2_with fail
          refine (rmade_calls g1 A n c ds _ hr5 hk5 hc5).mono ?_
          rintro e w6 ⟨⟨s, b, A, n, c, rfl, hI⟩, hB6⟩
          replace a3 := blk_below a3 hB6
          replace B3 := bl_then B3 hB6
          clear hB6
          obtain ⟨⟨z1, z2, z3⟩, z4, z5, z6⟩ := bx3 a3
          rw [HV5.out, EQ.out.1] at hI
          have hE := Lib.hid (putR hI a3 B3 (by omega))
          go_wp2
          refine bodyPost_ret (results_cell_row rfl _ _ (w.heap.size + 1 + 1) 49 #[.int .i64 s, .bool b, .slice A n c] (0, 0) _ rfl hE.out.2.2 Tryz.underlying49 rfl (by kernel_rfl)) rfl ?_
          exact ⟨⟨_, _, _, _, _, rfl, hE.out.1⟩, hE.out.2.1⟩
        · have hsg : (val 1073741824 xs - val 1073741824 ys).sign < 0 := Int.sign_neg_iff.2 (by omega)
          have hlen : m1 ≤ m2 := by
            rcases Nat.lt_or_ge m2 m1 with h | h
            · have := val_lt_len (B := 1073741824) (by omega) hk2 hk1 T1.out (by rw [hD1.1, hE2.1]; exact h)
              omega
            · exact h
          have hle' := Lib.hid (show val 1073741824 xs ≤ val 1073741824 ys by omega)
          clear hle
          generalize (val 1073741824 xs - val 1073741824 ys).sign = sg at *
          go_wp2_with fail
          refine (rdifference_calls _ _ _ ys _ _ _ xs _ hE2 hD1 hk2 hk1 (by omega) (fun i hi => getD_beyond _ _ (by have := hlen; have := hE2.1; have := hD1.1; omega)) hle'.out).mono ?_
          rintro e w5 ⟨A, n, c, ds, rfl, hc5, hn5, hr5, hk5, hv5, hB5⟩
          replace a3 := blk_below (blk_drewN a3 nd) hB5
          replace B3 := bl_then (bl_drewN B3 nd) hB5
          have HV5 := Lib.hid hv5
          clear hB5 hn5 hv5
          go_wp2_with fail
          refine (rmade_calls g2 A n c ds _ hr5 hk5 hc5).mono ?_
          rintro e w6 ⟨⟨s, b, A, n, c, rfl, hI⟩, hB6⟩
          replace a3 := blk_below a3 hB6
          replace B3 := bl_then B3 hB6
          clear hB6
          obtain ⟨⟨z1, z2, z3⟩, z4, z5, z6⟩ := bx3 a3
          rw [HV5.out, EQ.out.2] at hI
          have hE := Lib.hid (putR hI a3 B3 (by omega))
          go_wp2
          refine bodyPost_ret (results_cell_row rfl _ _ (w.heap.size + 1 + 1) 49 #[.int .i64 s, .bool b, .slice A n c] (0, 0) _ rfl hE.out.2.2 Tryz.underlying49 rfl (by kernel_rfl)) rfl ?_
          exact ⟨⟨_, _, _, _, _, rfl, hE.out.1⟩, hE.out.2.1⟩

set_option maxHeartbeats 8000000 in
set_option maxRecDepth 100000 in
theorem rless_calls (s1 : Int) (b1 : Bool) (A1 : Option Addr) (n1 c1 : Nat) (x : Int) (s2 : Int) (b2 : Bool) (A2 : Option Addr) (n2 c2 : Nat) (y : Int) (w : World) (h1 : RV w s1 b1 A1 n1 c1 x) (h2 : RV w s2 b2 A2 n2 c2 y) (k : Nat) (z1 : Sz k x) (z2 : Sz k y) (hk : k ≤ 20000000000) :
    Calls Tryz.prog 137 #[.agg #[.int .i64 s1, .bool b1, .slice A1 n1 c1], .agg #[.int .i64 s2, .bool b2, .slice A2 n2 c2]] w fun e w' => RIntR e w' (x - y) ∧ Below w.heap.size w w' := by
  rw [Int.sub_eq_add_neg]
  go_enter Tryz.func137, Tryz.ntmps137
  go_wp2_with fail
  have B3 := bl_alloc (bl_alloc (bl_alloc (Below.refl w.heap.size w) (.cells #[.int .i64 s1, .bool b1, .slice A1 n1 c1] 49)) (.cells #[.int .i64 s2, .bool b2, .slice A2 n2 c2] 49)) (.cells #[.int .i64 0, .bool false, .slice none 0 0] 49)
  have a1 : (((w.alloc (.cells #[.int .i64 s1, .bool b1, .slice A1 n1 c1] 49)).alloc (.cells #[.int .i64 s2, .bool b2, .slice A2 n2 c2] 49)).alloc (.cells #[.int .i64 0, .bool false, .slice none 0 0] 49)).heap[w.heap.size]? = some (.cells #[.int .i64 s1, .bool b1, .slice A1 n1 c1] 49 (0, 0)) := blk_alloc (blk_alloc (blk_at _ rfl) _) _
  have a2 : (((w.alloc (.cells #[.int .i64 s1, .bool b1, .slice A1 n1 c1] 49)).alloc (.cells #[.int .i64 s2, .bool b2, .slice A2 n2 c2] 49)).alloc (.cells #[.int .i64 0, .bool false, .slice none 0 0] 49)).heap[w.heap.size + 1]? = some (.cells #[.int .i64 s2, .bool b2, .slice A2 n2 c2] 49 (0, 0)) := blk_alloc (blk_at _ (by simp)) _
  have a3 : (((w.alloc (.cells #[.int .i64 s1, .bool b1, .slice A1 n1 c1] 49)).alloc (.cells #[.int .i64 s2, .bool b2, .slice A2 n2 c2] 49)).alloc (.cells #[.int .i64 0, .bool false, .slice none 0 0] 49)).heap[w.heap.size + 1 + 1]? = some (.cells #[.int .i64 0, .bool false, .slice none 0 0] 49 (0, 0)) := blk_at _ (by simp)
  replace h1 := h1.below B3
  replace h2 := h2.below B3
  generalize ((w.alloc (.cells #[.int .i64 s1, .bool b1, .slice A1 n1 c1] 49)).alloc (.cells #[.int .i64 s2, .bool b2, .slice A2 n2 c2] 49)).alloc (.cells #[.int .i64 0, .bool false, .slice none 0 0] 49) = W3 at *
  obtain ⟨⟨p1, p2, p3⟩, p4, p5, p6⟩ := bx3 a1
  obtain ⟨⟨q1, q2, q3⟩, q4, q5, q6⟩ := bx3 a2
  go_region_held3 (fun W => W.cell? ⟨w.heap.size, 0, none⟩ = some (.int .i64 s1) ∧ W.cell? ⟨w.heap.size, 1, none⟩ = some (.bool b1) ∧ W.cell? ⟨w.heap.size, 2, none⟩ = some (.slice A1 n1 c1) ∧ W.cell? ⟨w.heap.size + 1, 0, none⟩ = some (.int .i64 s2) ∧ W.cell? ⟨w.heap.size + 1, 1, none⟩ = some (.bool b2) ∧ W.cell? ⟨w.heap.size + 1, 2, none⟩ = some (.slice A2 n2 c2)) (first | exact keep6 hB2 (by assumption) | exact keep6 hB1 (by assumption) | exact ⟨p1, p2, p3, q1, q2, q3⟩ | exact keep6_set3 (by assumption) (by omega) (by omega) | go_keep) (first | (have _hh := h2_1; go_at_call 79; refine (rplus_calls s1 b1 A1 n1 c1 x _ _ A2 n2 c2 (-y) _ h1_1 h2_1 k z1 z2.neg hk).mono ?_; rintro e w2 ⟨⟨s, b, A, n, c, rfl, hI⟩, hB2⟩; have a3_2 := blk_below a3_1 hB2; have B3_2 := bl_then B3_1 hB2; have hE := Lib.hid (putR hI a3_2 B3_2 (by omega)); obtain ⟨⟨z1, z2, z3⟩, z4, z5, z6⟩ := bx3 a3_2) | (go_at_call 106; refine (rminus_calls s2 b2 A2 n2 c2 y _ (by first | exact h2 | exact h2.kp (Kp.refl _ _).drew)).mono ?_; rintro e w1 ⟨rfl, hB1⟩; have h1_1 := (h1.kp (Kp.refl _ _).drew).below hB1; have h2_1 := ((h2.kp (Kp.refl _ _).drew).below hB1).neg; have a3_1 := blk_below (blk_drew a3) hB1; have B3_1 := bl_then (bl_drew B3) hB1))
  all_goals
    go_wp2
    refine bodyPost_ret (results_cell_row rfl _ _ (w.heap.size + 1 + 1) 49 #[.int .i64 s, .bool b, .slice A n c] (0, 0) _ rfl hE.out.2.2 Tryz.underlying49 rfl (by kernel_rfl)) rfl ?_
    exact ⟨⟨_, _, _, _, _, rfl, hE.out.1⟩, hE.out.2.1⟩
end Go.Proofs.YtloplmmnmehkmaaGreat
