/- floodmarklaw01: NumBetween, NumMakes, NumArithmetic. -/
import Derived.Test.YtijdnlkojflnkaaRef15
import Derived.Test.YtijdnlkojflnkaaLeast
set_option linter.unusedVariables false
set_option linter.unusedSimpArgs false
namespace Go.Proofs.Ytijdnlkojflnkaa
open Go.RowKit

theorem btw_unique {t l t' l' T L E T' L' E' : Int} (h : Btw t l t' l' T L E) (k : Btw t l t' l' T' L' E') : T' = T ∧ L' = L ∧ E' = E := by
  rcases h with ⟨a, a1, a2, a3⟩ | ⟨a, h⟩
  · rcases k with ⟨_, b1, b2, b3⟩ | ⟨b, _⟩
    · omega
    · exact absurd b a
  · rcases k with ⟨b, _⟩ | ⟨_, k⟩
    · exact absurd a b
    · have n1 := num_sz a.1
      have n2 := num_sz a.2
      have d1 := den_pos' (Rat.divInt t l)
      have d2 := den_pos' (Rat.divInt t' l')
      rcases h with ⟨c, c1⟩ | ⟨c, h⟩
      · rcases k with ⟨_, e1⟩ | ⟨e, _⟩
        · omega
        · exact absurd e c
      · rcases k with ⟨e, _⟩ | ⟨_, k⟩
        · exact absurd c e
        · rcases h with ⟨f1, f2, f3⟩ | ⟨f1, x, fx, f3⟩ | ⟨f1, x, fx, f3⟩
          · rcases k with ⟨g1, g2, g3⟩ | ⟨g1, y, gx, g3⟩ | ⟨g1, y, gx, g3⟩
            · omega
            · omega
            · omega
          · have ht : t < 0 := by
              rw [Rat.le_iff, n1.2.1, n2.2.1] at c
              rcases Int.lt_or_le t 0 with h | h
              · exact h
              · have := Int.mul_nonneg h (show 0 ≤ ((Rat.divInt t' l').den : Int) by omega)
                have := Int.mul_neg_of_neg_of_pos f1 d1
                omega
            rcases k with ⟨g1, g2, g3⟩ | ⟨g1, y, gx, g3⟩ | ⟨g1, y, gx, g3⟩
            · omega
            · have := fx.unique gx
              subst this
              omega
            · omega
          · rcases k with ⟨g1, g2, g3⟩ | ⟨g1, y, gx, g3⟩ | ⟨g1, y, gx, g3⟩
            · omega
            · have ht : t < 0 := by
                rw [Rat.le_iff, n1.2.1, n2.2.1] at c
                rcases Int.lt_or_le t 0 with h | h
                · exact h
                · have := Int.mul_nonneg h (show 0 ≤ ((Rat.divInt t' l').den : Int) by omega)
                  have := Int.mul_neg_of_neg_of_pos g1 d1
                  omega
              omega
            · have := fx.unique gx
              subst this
              omega

set_option maxHeartbeats 40000000 in
set_option maxRecDepth 100000 in
theorem between_walk (t1 l1 t2 l2 : Int) (w : World) (I1 : Hid (I64 t1 l1)) (I2 : Hid (I64 t2 l2)) :
    Calls Try.prog 3 #[.agg #[.int .i64 t1, .int .i64 l1], .agg #[.int .i64 t2, .int .i64 l2]] w fun e w' => e = .returned (.bool true) ∧ Below w.heap.size w w' := by
  go_enter Try.func3, Try.ntmps3
  go_upto_region 1 with (fail)
  have B0 := bl_alloc (bl_alloc (Below.refl w.heap.size w) (.cells #[.int .i64 t1, .int .i64 l1] 23)) (.cells #[.int .i64 t2, .int .i64 l2] 23)
  have x_a : ((w.alloc (.cells #[.int .i64 t1, .int .i64 l1] 23)).alloc (.cells #[.int .i64 t2, .int .i64 l2] 23)).heap[w.heap.size]? = some (.cells #[.int .i64 t1, .int .i64 l1] 23 (0, 0)) := blk_alloc (blk_at _ rfl) _
  have x_b : ((w.alloc (.cells #[.int .i64 t1, .int .i64 l1] 23)).alloc (.cells #[.int .i64 t2, .int .i64 l2] 23)).heap[w.heap.size + 1]? = some (.cells #[.int .i64 t2, .int .i64 l2] 23 (0, 0)) := blk_at _ (by simp)
  have hmx : w.heap.size + 1 < ((w.alloc (.cells #[.int .i64 t1, .int .i64 l1] 23)).alloc (.cells #[.int .i64 t2, .int .i64 l2] 23)).heap.size := by simp; try omega
  generalize (w.alloc (.cells #[.int .i64 t1, .int .i64 l1] 23)).alloc (.cells #[.int .i64 t2, .int .i64 l2] 23) = W0 at *
  clear hmx
  obtain ⟨u11, u12, u13, u14⟩ := bx2 x_a
  obtain ⟨u21, u22, u23, u24⟩ := bx2 x_b
  go_wp2_with fail
  refine (nbetween_calls t1 l1 t2 l2 _ I1.out.1.1 I1.out.1.2 I1.out.2.1 I1.out.2.2 I2.out.1.1 I2.out.1.2 I2.out.2.1 I2.out.2.2).mono ?_
  rintro e wk1 ⟨⟨T, L, E, he, hb⟩, hB1⟩
  clear u11 u12 u13 u14 u21 u22 u23 u24
  unfold NumR at he
  subst he
  have HBT := Lib.hid hb
  clear hb
  replace x_a := blk_alloc (blk_below x_a hB1) (.cells #[.int .i64 T, .int .i64 L] 23)
  replace x_b := blk_alloc (blk_below x_b hB1) (.cells #[.int .i64 T, .int .i64 L] 23)
  replace B0 := bl_alloc (bl_then B0 hB1) (.cells #[.int .i64 T, .int .i64 L] 23)
  have x_p : (wk1.alloc (.cells #[.int .i64 T, .int .i64 L] 23)).heap[wk1.heap.size]? = some (.cells #[.int .i64 T, .int .i64 L] 23 (0, 0)) := blk_at _ rfl
  clear hB1
  go_upto_region 2 with (fail)
  generalize wk1.heap.size = g1 at *
  generalize wk1.alloc (.cells #[.int .i64 T, .int .i64 L] 23) = wn1 at *
  obtain ⟨u11, u12, u13, u14⟩ := bx2 x_a
  obtain ⟨u21, u22, u23, u24⟩ := bx2 x_b
  go_wp2_with fail
  refine (rnbetween_calls t1 l1 t2 l2 _ I1.out.1.1 I1.out.1.2 I1.out.2.1 I1.out.2.2 I2.out.1.1 I2.out.1.2 I2.out.2.1 I2.out.2.2).mono ?_
  rintro e wk2 ⟨⟨T', L', E', he, hb⟩, hB2⟩
  clear u11 u12 u13 u14 u21 u22 u23 u24
  obtain ⟨rfl, rfl, rfl⟩ := btw_unique HBT.out hb
  unfold NumR at he
  subst he
  clear hb HBT
  replace x_a := blk_alloc (blk_below x_a hB2) (.cells #[.int .i64 T', .int .i64 L'] 23)
  replace x_b := blk_alloc (blk_below x_b hB2) (.cells #[.int .i64 T', .int .i64 L'] 23)
  replace x_p := blk_alloc (blk_below x_p hB2) (.cells #[.int .i64 T', .int .i64 L'] 23)
  replace B0 := bl_alloc (bl_then B0 hB2) (.cells #[.int .i64 T', .int .i64 L'] 23)
  have x_q : (wk2.alloc (.cells #[.int .i64 T', .int .i64 L'] 23)).heap[wk2.heap.size]? = some (.cells #[.int .i64 T', .int .i64 L'] 23 (0, 0)) := blk_at _ rfl
  clear hB2
  go_upto_region 3 with (fail)
  generalize wk2.heap.size = g2 at *
  generalize wk2.alloc (.cells #[.int .i64 T', .int .i64 L'] 23) = wn2 at *
  obtain ⟨u11, u12, u13, u14⟩ := bx2 x_p
  obtain ⟨u21, u22, u23, u24⟩ := bx2 x_q
  go_wp2_with fail
  refine (awake_calls _).mono ?_
  rintro e wz ⟨rfl, hBz⟩
  go_wp2
  go_ret
  exact ⟨rfl, bl_then B0 hBz⟩

set_option maxHeartbeats 40000000 in
set_option maxRecDepth 100000 in
theorem makes_walk (x y t3 l3 : Int) (w : World) (XY : Hid (I64 x y)) (I3 : Hid (I64 t3 l3)) :
    Calls Try.prog 6 #[.int .i64 x, .int .i64 y, .agg #[.int .i64 t3, .int .i64 l3]] w fun e w' => e = .returned (.bool true) ∧ Below w.heap.size w w' := by
  go_enter Try.func6, Try.ntmps6
  go_upto_region 1 with (fail)
  have B0 := bl_alloc (Below.refl w.heap.size w) (.cells #[.int .i64 t3, .int .i64 l3] 23)
  have x_a : (w.alloc (.cells #[.int .i64 t3, .int .i64 l3] 23)).heap[w.heap.size]? = some (.cells #[.int .i64 t3, .int .i64 l3] 23 (0, 0)) := blk_at _ rfl
  generalize w.alloc (.cells #[.int .i64 t3, .int .i64 l3] 23) = W0 at *
  generalize hT : mT x y = mT1
  replace hT := Lib.hid hT
  generalize hL : mL x y = mL1
  replace hL := Lib.hid hL
  generalize hE : mE x y = mE1
  replace hE := Lib.hid hE
  go_wp2_with fail
  refine (nmake_calls x y _ XY.out.1.1 XY.out.1.2 XY.out.2.1 XY.out.2.2).mono ?_
  rintro e wk1 ⟨he, hB1⟩
  rw [hT.out, hL.out, hE.out] at he
  unfold NumR at he
  subst he
  replace x_a := blk_alloc (blk_below x_a hB1) (.cells #[.int .i64 mT1, .int .i64 mL1] 23)
  replace B0 := bl_alloc (bl_then B0 hB1) (.cells #[.int .i64 mT1, .int .i64 mL1] 23)
  have x_p : (wk1.alloc (.cells #[.int .i64 mT1, .int .i64 mL1] 23)).heap[wk1.heap.size]? = some (.cells #[.int .i64 mT1, .int .i64 mL1] 23 (0, 0)) := blk_at _ rfl
  clear hB1
  go_upto_region 2 with (fail)
  generalize wk1.heap.size = g1 at *
  generalize wk1.alloc (.cells #[.int .i64 mT1, .int .i64 mL1] 23) = wn1 at *
  go_wp2_with fail
  refine (rnfrac_calls x y _ XY.out.1.1 XY.out.1.2 XY.out.2.1 XY.out.2.2).mono ?_
  rintro e wk2 ⟨he, hB2⟩
  rw [hT.out, hL.out, hE.out] at he
  unfold NumR at he
  subst he
  replace x_a := blk_alloc (blk_below x_a hB2) (.cells #[.int .i64 mT1, .int .i64 mL1] 23)
  replace x_p := blk_alloc (blk_below x_p hB2) (.cells #[.int .i64 mT1, .int .i64 mL1] 23)
  replace B0 := bl_alloc (bl_then B0 hB2) (.cells #[.int .i64 mT1, .int .i64 mL1] 23)
  have x_q : (wk2.alloc (.cells #[.int .i64 mT1, .int .i64 mL1] 23)).heap[wk2.heap.size]? = some (.cells #[.int .i64 mT1, .int .i64 mL1] 23 (0, 0)) := blk_at _ rfl
  clear hB2
  go_upto_region 3 with (fail)
  generalize wk2.heap.size = g2 at *
  generalize wk2.alloc (.cells #[.int .i64 mT1, .int .i64 mL1] 23) = wn2 at *
  generalize hflR : flR t3 l3 = flR1
  replace hflR := Lib.hid hflR
  generalize hflE : flE t3 l3 = flE1
  replace hflE := Lib.hid hflE
  generalize hceR : ceR t3 l3 = ceR1
  replace hceR := Lib.hid hceR
  generalize hceE : ceE t3 l3 = ceE1
  replace hceE := Lib.hid hceE
  obtain ⟨u11, u12, u13, u14⟩ := bx2 x_a
  go_wp2_with fail
  refine (nfloor_calls t3 l3 _ I3.out.1.1 I3.out.1.2 I3.out.2.1 I3.out.2.2).mono ?_
  rintro e wk3 ⟨he, hB3⟩
  rw [hflR.out, hflE.out] at he
  subst he
  clear u11 u12 u13 u14
  replace x_a := blk_below x_a hB3
  replace x_p := blk_below x_p hB3
  replace x_q := blk_below x_q hB3
  replace B0 := bl_then B0 hB3
  clear hB3
  obtain ⟨u11, u12, u13, u14⟩ := bx2 x_a
  go_wp2_with fail
  refine (rnfloor_calls t3 l3 _ I3.out.1.1 I3.out.1.2 I3.out.2.1 I3.out.2.2).mono ?_
  rintro e wk4 ⟨he, hB4⟩
  rw [hflR.out, hflE.out] at he
  subst he
  clear u11 u12 u13 u14
  replace x_a := blk_below x_a hB4
  replace x_p := blk_below x_p hB4
  replace x_q := blk_below x_q hB4
  replace B0 := bl_then B0 hB4
  clear hB4
  obtain ⟨u11, u12, u13, u14⟩ := bx2 x_a
  go_wp2_with fail
  refine (nceil_calls t3 l3 _ I3.out.1.1 I3.out.1.2 I3.out.2.1 I3.out.2.2).mono ?_
  rintro e wk5 ⟨he, hB5⟩
  rw [hceR.out, hceE.out] at he
  subst he
  clear u11 u12 u13 u14
  replace x_a := blk_below x_a hB5
  replace x_p := blk_below x_p hB5
  replace x_q := blk_below x_q hB5
  replace B0 := bl_then B0 hB5
  clear hB5
  obtain ⟨u11, u12, u13, u14⟩ := bx2 x_a
  go_wp2_with fail
  refine (rnceil_calls t3 l3 _ I3.out.1.1 I3.out.1.2 I3.out.2.1 I3.out.2.2).mono ?_
  rintro e wk6 ⟨he, hB6⟩
  rw [hceR.out, hceE.out] at he
  subst he
  clear u11 u12 u13 u14
  replace x_a := blk_below x_a hB6
  replace x_p := blk_below x_p hB6
  replace x_q := blk_below x_q hB6
  replace B0 := bl_then B0 hB6
  clear hB6
  obtain ⟨u11, u12, u13, u14⟩ := bx2 x_p
  obtain ⟨u21, u22, u23, u24⟩ := bx2 x_q
  go_wp2_with fail
  refine (awake_calls _).mono ?_
  rintro e wz ⟨rfl, hBz⟩
  go_wp2
  go_ret
  exact ⟨rfl, bl_then B0 hBz⟩

set_option maxHeartbeats 40000000 in
set_option maxRecDepth 100000 in
theorem arith_walk (t1 l1 t2 l2 : Int) (w : World) (I1 : Hid (I64 t1 l1)) (I2 : Hid (I64 t2 l2)) :
    Calls Try.prog 7 #[.agg #[.int .i64 t1, .int .i64 l1], .agg #[.int .i64 t2, .int .i64 l2]] w fun e w' => e = .returned (.bool true) ∧ Below w.heap.size w w' := by
  go_enter Try.func7, Try.ntmps7
  go_upto_region 1 with (fail)
  have B0 := bl_alloc (bl_alloc (Below.refl w.heap.size w) (.cells #[.int .i64 t1, .int .i64 l1] 23)) (.cells #[.int .i64 t2, .int .i64 l2] 23)
  have x_a : ((w.alloc (.cells #[.int .i64 t1, .int .i64 l1] 23)).alloc (.cells #[.int .i64 t2, .int .i64 l2] 23)).heap[w.heap.size]? = some (.cells #[.int .i64 t1, .int .i64 l1] 23 (0, 0)) := blk_alloc (blk_at _ rfl) _
  have x_b : ((w.alloc (.cells #[.int .i64 t1, .int .i64 l1] 23)).alloc (.cells #[.int .i64 t2, .int .i64 l2] 23)).heap[w.heap.size + 1]? = some (.cells #[.int .i64 t2, .int .i64 l2] 23 (0, 0)) := blk_at _ (by simp)
  have hmx : w.heap.size + 1 < ((w.alloc (.cells #[.int .i64 t1, .int .i64 l1] 23)).alloc (.cells #[.int .i64 t2, .int .i64 l2] 23)).heap.size := by simp; try omega
  generalize (w.alloc (.cells #[.int .i64 t1, .int .i64 l1] 23)).alloc (.cells #[.int .i64 t2, .int .i64 l2] 23) = W0 at *
  clear hmx
  generalize hT0 : rT (OkN t1 l1 ∧ OkN t2 l2) (Rat.divInt t1 l1 + Rat.divInt t2 l2) = oT0
  replace hT0 := Lib.hid hT0
  generalize hL0 : rL (OkN t1 l1 ∧ OkN t2 l2) (Rat.divInt t1 l1 + Rat.divInt t2 l2) = oL0
  replace hL0 := Lib.hid hL0
  generalize hE0 : rE (OkN t1 l1 ∧ OkN t2 l2) (Rat.divInt t1 l1 + Rat.divInt t2 l2) = oE0
  replace hE0 := Lib.hid hE0
  obtain ⟨u11, u12, u13, u14⟩ := bx2 x_a
  obtain ⟨u21, u22, u23, u24⟩ := bx2 x_b
  go_wp2_with fail
  refine (nadd_calls t1 l1 t2 l2 _ I1.out.1.1 I1.out.1.2 I1.out.2.1 I1.out.2.2 I2.out.1.1 I2.out.1.2 I2.out.2.1 I2.out.2.2).mono ?_
  rintro e wk1 ⟨he, hB1⟩
  rw [hT0.out, hL0.out, hE0.out] at he
  unfold NumR at he
  subst he
  clear u11 u12 u13 u14 u21 u22 u23 u24
  replace x_a := blk_alloc (blk_below x_a hB1) (.cells #[.int .i64 oT0, .int .i64 oL0] 23)
  replace x_b := blk_alloc (blk_below x_b hB1) (.cells #[.int .i64 oT0, .int .i64 oL0] 23)
  replace B0 := bl_alloc (bl_then B0 hB1) (.cells #[.int .i64 oT0, .int .i64 oL0] 23)
  have x_p1 : (wk1.alloc (.cells #[.int .i64 oT0, .int .i64 oL0] 23)).heap[wk1.heap.size]? = some (.cells #[.int .i64 oT0, .int .i64 oL0] 23 (0, 0)) := blk_at _ rfl
  clear hB1
  go_upto_region 2 with (fail)
  generalize wk1.heap.size = g1 at *
  generalize wk1.alloc (.cells #[.int .i64 oT0, .int .i64 oL0] 23) = wn1 at *
  obtain ⟨u11, u12, u13, u14⟩ := bx2 x_a
  obtain ⟨u21, u22, u23, u24⟩ := bx2 x_b
  go_wp2_with fail
  refine (rnadd_calls t1 l1 t2 l2 _ I1.out.1.1 I1.out.1.2 I1.out.2.1 I1.out.2.2 I2.out.1.1 I2.out.1.2 I2.out.2.1 I2.out.2.2).mono ?_
  rintro e wk2 ⟨he, hB2⟩
  rw [hT0.out, hL0.out, hE0.out] at he
  unfold NumR at he
  subst he
  clear u11 u12 u13 u14 u21 u22 u23 u24
  replace x_a := blk_alloc (blk_below x_a hB2) (.cells #[.int .i64 oT0, .int .i64 oL0] 23)
  replace x_b := blk_alloc (blk_below x_b hB2) (.cells #[.int .i64 oT0, .int .i64 oL0] 23)
  replace x_p1 := blk_alloc (blk_below x_p1 hB2) (.cells #[.int .i64 oT0, .int .i64 oL0] 23)
  replace B0 := bl_alloc (bl_then B0 hB2) (.cells #[.int .i64 oT0, .int .i64 oL0] 23)
  have x_p2 : (wk2.alloc (.cells #[.int .i64 oT0, .int .i64 oL0] 23)).heap[wk2.heap.size]? = some (.cells #[.int .i64 oT0, .int .i64 oL0] 23 (0, 0)) := blk_at _ rfl
  clear hB2
  go_upto_region 3 with (fail)
  generalize wk2.heap.size = g2 at *
  generalize wk2.alloc (.cells #[.int .i64 oT0, .int .i64 oL0] 23) = wn2 at *
  generalize hT1 : rT (OkN t1 l1 ∧ OkN t2 l2) (Rat.divInt t1 l1 - Rat.divInt t2 l2) = oT1
  replace hT1 := Lib.hid hT1
  generalize hL1 : rL (OkN t1 l1 ∧ OkN t2 l2) (Rat.divInt t1 l1 - Rat.divInt t2 l2) = oL1
  replace hL1 := Lib.hid hL1
  generalize hE1 : rE (OkN t1 l1 ∧ OkN t2 l2) (Rat.divInt t1 l1 - Rat.divInt t2 l2) = oE1
  replace hE1 := Lib.hid hE1
  obtain ⟨u11, u12, u13, u14⟩ := bx2 x_a
  obtain ⟨u21, u22, u23, u24⟩ := bx2 x_b
  go_wp2_with fail
  refine (nsub_calls t1 l1 t2 l2 _ I1.out.1.1 I1.out.1.2 I1.out.2.1 I1.out.2.2 I2.out.1.1 I2.out.1.2 I2.out.2.1 I2.out.2.2).mono ?_
  rintro e wk3 ⟨he, hB3⟩
  rw [hT1.out, hL1.out, hE1.out] at he
  unfold NumR at he
  subst he
  clear u11 u12 u13 u14 u21 u22 u23 u24
  replace x_a := blk_alloc (blk_below x_a hB3) (.cells #[.int .i64 oT1, .int .i64 oL1] 23)
  replace x_b := blk_alloc (blk_below x_b hB3) (.cells #[.int .i64 oT1, .int .i64 oL1] 23)
  replace x_p1 := blk_alloc (blk_below x_p1 hB3) (.cells #[.int .i64 oT1, .int .i64 oL1] 23)
  replace x_p2 := blk_alloc (blk_below x_p2 hB3) (.cells #[.int .i64 oT1, .int .i64 oL1] 23)
  replace B0 := bl_alloc (bl_then B0 hB3) (.cells #[.int .i64 oT1, .int .i64 oL1] 23)
  have x_p3 : (wk3.alloc (.cells #[.int .i64 oT1, .int .i64 oL1] 23)).heap[wk3.heap.size]? = some (.cells #[.int .i64 oT1, .int .i64 oL1] 23 (0, 0)) := blk_at _ rfl
  clear hB3
  go_upto_region 4 with (fail)
  generalize wk3.heap.size = g3 at *
  generalize wk3.alloc (.cells #[.int .i64 oT1, .int .i64 oL1] 23) = wn3 at *
  obtain ⟨u11, u12, u13, u14⟩ := bx2 x_a
  obtain ⟨u21, u22, u23, u24⟩ := bx2 x_b
  go_wp2_with fail
  refine (rnsub_calls t1 l1 t2 l2 _ I1.out.1.1 I1.out.1.2 I1.out.2.1 I1.out.2.2 I2.out.1.1 I2.out.1.2 I2.out.2.1 I2.out.2.2).mono ?_
  rintro e wk4 ⟨he, hB4⟩
  rw [hT1.out, hL1.out, hE1.out] at he
  unfold NumR at he
  subst he
  clear u11 u12 u13 u14 u21 u22 u23 u24
  replace x_a := blk_alloc (blk_below x_a hB4) (.cells #[.int .i64 oT1, .int .i64 oL1] 23)
  replace x_b := blk_alloc (blk_below x_b hB4) (.cells #[.int .i64 oT1, .int .i64 oL1] 23)
  replace x_p1 := blk_alloc (blk_below x_p1 hB4) (.cells #[.int .i64 oT1, .int .i64 oL1] 23)
  replace x_p2 := blk_alloc (blk_below x_p2 hB4) (.cells #[.int .i64 oT1, .int .i64 oL1] 23)
  replace x_p3 := blk_alloc (blk_below x_p3 hB4) (.cells #[.int .i64 oT1, .int .i64 oL1] 23)
  replace B0 := bl_alloc (bl_then B0 hB4) (.cells #[.int .i64 oT1, .int .i64 oL1] 23)
  have x_p4 : (wk4.alloc (.cells #[.int .i64 oT1, .int .i64 oL1] 23)).heap[wk4.heap.size]? = some (.cells #[.int .i64 oT1, .int .i64 oL1] 23 (0, 0)) := blk_at _ rfl
  clear hB4
  go_upto_region 5 with (fail)
  generalize wk4.heap.size = g4 at *
  generalize wk4.alloc (.cells #[.int .i64 oT1, .int .i64 oL1] 23) = wn4 at *
  generalize hT2 : rT (OkN t1 l1 ∧ OkN t2 l2) (Rat.divInt t1 l1 * Rat.divInt t2 l2) = oT2
  replace hT2 := Lib.hid hT2
  generalize hL2 : rL (OkN t1 l1 ∧ OkN t2 l2) (Rat.divInt t1 l1 * Rat.divInt t2 l2) = oL2
  replace hL2 := Lib.hid hL2
  generalize hE2 : rE (OkN t1 l1 ∧ OkN t2 l2) (Rat.divInt t1 l1 * Rat.divInt t2 l2) = oE2
  replace hE2 := Lib.hid hE2
  obtain ⟨u11, u12, u13, u14⟩ := bx2 x_a
  obtain ⟨u21, u22, u23, u24⟩ := bx2 x_b
  go_wp2_with fail
  refine (nmul_calls t1 l1 t2 l2 _ I1.out.1.1 I1.out.1.2 I1.out.2.1 I1.out.2.2 I2.out.1.1 I2.out.1.2 I2.out.2.1 I2.out.2.2).mono ?_
  rintro e wk5 ⟨he, hB5⟩
  rw [hT2.out, hL2.out, hE2.out] at he
  unfold NumR at he
  subst he
  clear u11 u12 u13 u14 u21 u22 u23 u24
  replace x_a := blk_alloc (blk_below x_a hB5) (.cells #[.int .i64 oT2, .int .i64 oL2] 23)
  replace x_b := blk_alloc (blk_below x_b hB5) (.cells #[.int .i64 oT2, .int .i64 oL2] 23)
  replace x_p1 := blk_alloc (blk_below x_p1 hB5) (.cells #[.int .i64 oT2, .int .i64 oL2] 23)
  replace x_p2 := blk_alloc (blk_below x_p2 hB5) (.cells #[.int .i64 oT2, .int .i64 oL2] 23)
  replace x_p3 := blk_alloc (blk_below x_p3 hB5) (.cells #[.int .i64 oT2, .int .i64 oL2] 23)
  replace x_p4 := blk_alloc (blk_below x_p4 hB5) (.cells #[.int .i64 oT2, .int .i64 oL2] 23)
  replace B0 := bl_alloc (bl_then B0 hB5) (.cells #[.int .i64 oT2, .int .i64 oL2] 23)
  have x_p5 : (wk5.alloc (.cells #[.int .i64 oT2, .int .i64 oL2] 23)).heap[wk5.heap.size]? = some (.cells #[.int .i64 oT2, .int .i64 oL2] 23 (0, 0)) := blk_at _ rfl
  clear hB5
  go_upto_region 6 with (fail)
  generalize wk5.heap.size = g5 at *
  generalize wk5.alloc (.cells #[.int .i64 oT2, .int .i64 oL2] 23) = wn5 at *
  obtain ⟨u11, u12, u13, u14⟩ := bx2 x_a
  obtain ⟨u21, u22, u23, u24⟩ := bx2 x_b
  go_wp2_with fail
  refine (rnmul_calls t1 l1 t2 l2 _ I1.out.1.1 I1.out.1.2 I1.out.2.1 I1.out.2.2 I2.out.1.1 I2.out.1.2 I2.out.2.1 I2.out.2.2).mono ?_
  rintro e wk6 ⟨he, hB6⟩
  rw [hT2.out, hL2.out, hE2.out] at he
  unfold NumR at he
  subst he
  clear u11 u12 u13 u14 u21 u22 u23 u24
  replace x_a := blk_alloc (blk_below x_a hB6) (.cells #[.int .i64 oT2, .int .i64 oL2] 23)
  replace x_b := blk_alloc (blk_below x_b hB6) (.cells #[.int .i64 oT2, .int .i64 oL2] 23)
  replace x_p1 := blk_alloc (blk_below x_p1 hB6) (.cells #[.int .i64 oT2, .int .i64 oL2] 23)
  replace x_p2 := blk_alloc (blk_below x_p2 hB6) (.cells #[.int .i64 oT2, .int .i64 oL2] 23)
  replace x_p3 := blk_alloc (blk_below x_p3 hB6) (.cells #[.int .i64 oT2, .int .i64 oL2] 23)
  replace x_p4 := blk_alloc (blk_below x_p4 hB6) (.cells #[.int .i64 oT2, .int .i64 oL2] 23)
  replace x_p5 := blk_alloc (blk_below x_p5 hB6) (.cells #[.int .i64 oT2, .int .i64 oL2] 23)
  replace B0 := bl_alloc (bl_then B0 hB6) (.cells #[.int .i64 oT2, .int .i64 oL2] 23)
  have x_p6 : (wk6.alloc (.cells #[.int .i64 oT2, .int .i64 oL2] 23)).heap[wk6.heap.size]? = some (.cells #[.int .i64 oT2, .int .i64 oL2] 23 (0, 0)) := blk_at _ rfl
  clear hB6
  go_upto_region 7 with (fail)
  generalize wk6.heap.size = g6 at *
  generalize wk6.alloc (.cells #[.int .i64 oT2, .int .i64 oL2] 23) = wn6 at *
  generalize hT3 : dT t1 l1 t2 l2 = oT3
  replace hT3 := Lib.hid hT3
  generalize hL3 : dL t1 l1 t2 l2 = oL3
  replace hL3 := Lib.hid hL3
  generalize hE3 : dE t1 l1 t2 l2 = oE3
  replace hE3 := Lib.hid hE3
  obtain ⟨u11, u12, u13, u14⟩ := bx2 x_a
  obtain ⟨u21, u22, u23, u24⟩ := bx2 x_b
  go_wp2_with fail
  refine (ndiv_calls t1 l1 t2 l2 _ I1.out.1.1 I1.out.1.2 I1.out.2.1 I1.out.2.2 I2.out.1.1 I2.out.1.2 I2.out.2.1 I2.out.2.2).mono ?_
  rintro e wk7 ⟨he, hB7⟩
  rw [hT3.out, hL3.out, hE3.out] at he
  unfold NumR at he
  subst he
  clear u11 u12 u13 u14 u21 u22 u23 u24
  replace x_a := blk_alloc (blk_below x_a hB7) (.cells #[.int .i64 oT3, .int .i64 oL3] 23)
  replace x_b := blk_alloc (blk_below x_b hB7) (.cells #[.int .i64 oT3, .int .i64 oL3] 23)
  replace x_p1 := blk_alloc (blk_below x_p1 hB7) (.cells #[.int .i64 oT3, .int .i64 oL3] 23)
  replace x_p2 := blk_alloc (blk_below x_p2 hB7) (.cells #[.int .i64 oT3, .int .i64 oL3] 23)
  replace x_p3 := blk_alloc (blk_below x_p3 hB7) (.cells #[.int .i64 oT3, .int .i64 oL3] 23)
  replace x_p4 := blk_alloc (blk_below x_p4 hB7) (.cells #[.int .i64 oT3, .int .i64 oL3] 23)
  replace x_p5 := blk_alloc (blk_below x_p5 hB7) (.cells #[.int .i64 oT3, .int .i64 oL3] 23)
  replace x_p6 := blk_alloc (blk_below x_p6 hB7) (.cells #[.int .i64 oT3, .int .i64 oL3] 23)
  replace B0 := bl_alloc (bl_then B0 hB7) (.cells #[.int .i64 oT3, .int .i64 oL3] 23)
  have x_p7 : (wk7.alloc (.cells #[.int .i64 oT3, .int .i64 oL3] 23)).heap[wk7.heap.size]? = some (.cells #[.int .i64 oT3, .int .i64 oL3] 23 (0, 0)) := blk_at _ rfl
  clear hB7
  go_upto_region 8 with (fail)
  generalize wk7.heap.size = g7 at *
  generalize wk7.alloc (.cells #[.int .i64 oT3, .int .i64 oL3] 23) = wn7 at *
  obtain ⟨u11, u12, u13, u14⟩ := bx2 x_a
  obtain ⟨u21, u22, u23, u24⟩ := bx2 x_b
  go_wp2_with fail
  refine (rndiv_calls t1 l1 t2 l2 _ I1.out.1.1 I1.out.1.2 I1.out.2.1 I1.out.2.2 I2.out.1.1 I2.out.1.2 I2.out.2.1 I2.out.2.2).mono ?_
  rintro e wk8 ⟨he, hB8⟩
  rw [hT3.out, hL3.out, hE3.out] at he
  unfold NumR at he
  subst he
  clear u11 u12 u13 u14 u21 u22 u23 u24
  replace x_a := blk_alloc (blk_below x_a hB8) (.cells #[.int .i64 oT3, .int .i64 oL3] 23)
  replace x_b := blk_alloc (blk_below x_b hB8) (.cells #[.int .i64 oT3, .int .i64 oL3] 23)
  replace x_p1 := blk_alloc (blk_below x_p1 hB8) (.cells #[.int .i64 oT3, .int .i64 oL3] 23)
  replace x_p2 := blk_alloc (blk_below x_p2 hB8) (.cells #[.int .i64 oT3, .int .i64 oL3] 23)
  replace x_p3 := blk_alloc (blk_below x_p3 hB8) (.cells #[.int .i64 oT3, .int .i64 oL3] 23)
  replace x_p4 := blk_alloc (blk_below x_p4 hB8) (.cells #[.int .i64 oT3, .int .i64 oL3] 23)
  replace x_p5 := blk_alloc (blk_below x_p5 hB8) (.cells #[.int .i64 oT3, .int .i64 oL3] 23)
  replace x_p6 := blk_alloc (blk_below x_p6 hB8) (.cells #[.int .i64 oT3, .int .i64 oL3] 23)
  replace x_p7 := blk_alloc (blk_below x_p7 hB8) (.cells #[.int .i64 oT3, .int .i64 oL3] 23)
  replace B0 := bl_alloc (bl_then B0 hB8) (.cells #[.int .i64 oT3, .int .i64 oL3] 23)
  have x_p8 : (wk8.alloc (.cells #[.int .i64 oT3, .int .i64 oL3] 23)).heap[wk8.heap.size]? = some (.cells #[.int .i64 oT3, .int .i64 oL3] 23 (0, 0)) := blk_at _ rfl
  clear hB8
  go_upto_region 9 with (fail)
  generalize wk8.heap.size = g8 at *
  generalize wk8.alloc (.cells #[.int .i64 oT3, .int .i64 oL3] 23) = wn8 at *
  generalize hcR : cR t1 l1 t2 l2 = ocR
  replace hcR := Lib.hid hcR
  generalize hcE : cE t1 l1 t2 l2 = ocE
  replace hcE := Lib.hid hcE
  obtain ⟨u11, u12, u13, u14⟩ := bx2 x_a
  obtain ⟨u21, u22, u23, u24⟩ := bx2 x_b
  go_wp2_with fail
  refine (ncmp_calls t1 l1 t2 l2 _ I1.out.1.1 I1.out.1.2 I1.out.2.1 I1.out.2.2 I2.out.1.1 I2.out.1.2 I2.out.2.1 I2.out.2.2).mono ?_
  rintro e wk9 ⟨he, hB9⟩
  rw [hcR.out, hcE.out] at he
  subst he
  clear u11 u12 u13 u14 u21 u22 u23 u24
  replace x_a := blk_below x_a hB9
  replace x_b := blk_below x_b hB9
  replace x_p1 := blk_below x_p1 hB9
  replace x_p2 := blk_below x_p2 hB9
  replace x_p3 := blk_below x_p3 hB9
  replace x_p4 := blk_below x_p4 hB9
  replace x_p5 := blk_below x_p5 hB9
  replace x_p6 := blk_below x_p6 hB9
  replace x_p7 := blk_below x_p7 hB9
  replace x_p8 := blk_below x_p8 hB9
  replace B0 := bl_then B0 hB9
  clear hB9
  obtain ⟨u11, u12, u13, u14⟩ := bx2 x_a
  obtain ⟨u21, u22, u23, u24⟩ := bx2 x_b
  go_wp2_with fail
  refine (rncmp_calls t1 l1 t2 l2 _ I1.out.1.1 I1.out.1.2 I1.out.2.1 I1.out.2.2 I2.out.1.1 I2.out.1.2 I2.out.2.1 I2.out.2.2).mono ?_
  rintro e wk10 ⟨he, hB10⟩
  rw [hcR.out, hcE.out] at he
  subst he
  clear u11 u12 u13 u14 u21 u22 u23 u24
  replace x_a := blk_below x_a hB10
  replace x_b := blk_below x_b hB10
  replace x_p1 := blk_below x_p1 hB10
  replace x_p2 := blk_below x_p2 hB10
  replace x_p3 := blk_below x_p3 hB10
  replace x_p4 := blk_below x_p4 hB10
  replace x_p5 := blk_below x_p5 hB10
  replace x_p6 := blk_below x_p6 hB10
  replace x_p7 := blk_below x_p7 hB10
  replace x_p8 := blk_below x_p8 hB10
  replace B0 := bl_then B0 hB10
  clear hB10
  have XV : ∃ bv : Bool, decide (OkN t1 l1) = bv := ⟨_, rfl⟩
  obtain ⟨bv, hbv⟩ := XV
  replace hbv := Lib.hid hbv
  go_upto_region 11 with (fail)
  have x_a_0 := x_a
  have x_p1_0 := x_p1
  have x_p2_0 := x_p2
  have x_p3_0 := x_p3
  have x_p4_0 := x_p4
  have x_p5_0 := x_p5
  have x_p6_0 := x_p6
  have x_p7_0 := x_p7
  have x_p8_0 := x_p8
  have HB_0 := B0
  obtain ⟨m01, m02, m03, m04⟩ := bx2 x_a
  obtain ⟨m11, m12, m13, m14⟩ := bx2 x_p1
  obtain ⟨m21, m22, m23, m24⟩ := bx2 x_p2
  obtain ⟨m31, m32, m33, m34⟩ := bx2 x_p3
  obtain ⟨m41, m42, m43, m44⟩ := bx2 x_p4
  obtain ⟨m51, m52, m53, m54⟩ := bx2 x_p5
  obtain ⟨m61, m62, m63, m64⟩ := bx2 x_p6
  obtain ⟨m71, m72, m73, m74⟩ := bx2 x_p7
  obtain ⟨m81, m82, m83, m84⟩ := bx2 x_p8
  cases bv
  all_goals
    go_region_held3 (fun W => W.cell? ⟨w.heap.size, 0, none⟩ = some (Value.int .i64 t1) ∧ W.cell? ⟨w.heap.size, 1, none⟩ = some (Value.int .i64 l1) ∧ W.cell? ⟨g1, 0, none⟩ = some (Value.int .i64 oT0) ∧ W.cell? ⟨g1, 1, none⟩ = some (Value.int .i64 oL0) ∧ W.cell? ⟨g2, 0, none⟩ = some (Value.int .i64 oT0) ∧ W.cell? ⟨g2, 1, none⟩ = some (Value.int .i64 oL0) ∧ W.cell? ⟨g3, 0, none⟩ = some (Value.int .i64 oT1) ∧ W.cell? ⟨g3, 1, none⟩ = some (Value.int .i64 oL1) ∧ W.cell? ⟨g4, 0, none⟩ = some (Value.int .i64 oT1) ∧ W.cell? ⟨g4, 1, none⟩ = some (Value.int .i64 oL1) ∧ W.cell? ⟨g5, 0, none⟩ = some (Value.int .i64 oT2) ∧ W.cell? ⟨g5, 1, none⟩ = some (Value.int .i64 oL2) ∧ W.cell? ⟨g6, 0, none⟩ = some (Value.int .i64 oT2) ∧ W.cell? ⟨g6, 1, none⟩ = some (Value.int .i64 oL2) ∧ W.cell? ⟨g7, 0, none⟩ = some (Value.int .i64 oT3) ∧ W.cell? ⟨g7, 1, none⟩ = some (Value.int .i64 oL3) ∧ W.cell? ⟨g8, 0, none⟩ = some (Value.int .i64 oT3) ∧ W.cell? ⟨g8, 1, none⟩ = some (Value.int .i64 oL3)) (first | with_reducible exact P3 | with_reducible exact P2 | with_reducible exact P1 | with_reducible exact (j2 (cx2 (blk_drew x_a_0)) (j2 (cx2 (blk_drew x_p1_0)) (j2 (cx2 (blk_drew x_p2_0)) (j2 (cx2 (blk_drew x_p3_0)) (j2 (cx2 (blk_drew x_p4_0)) (j2 (cx2 (blk_drew x_p5_0)) (j2 (cx2 (blk_drew x_p6_0)) (j2 (cx2 (blk_drew x_p7_0)) (cx2 (blk_drew x_p8_0)))))))))) | go_keep) (first | (have _hh := HB_2; go_at_call 11; refine (awake_calls _).mono ?_; rintro e ww3 ⟨rfl, hB3⟩; have x_a_3 : ww3.heap[w.heap.size]? = some (.cells #[.int .i64 t1, .int .i64 l1] 23 (0, 0)) := (by repeat (first | with_reducible exact x_a_2 | with_reducible refine blk_below ?_ hB3 | with_reducible refine blk_drew ?_)); have x_p1_3 : ww3.heap[g1]? = some (.cells #[.int .i64 oT0, .int .i64 oL0] 23 (0, 0)) := (by repeat (first | with_reducible exact x_p1_2 | with_reducible refine blk_below ?_ hB3 | with_reducible refine blk_drew ?_)); have x_p2_3 : ww3.heap[g2]? = some (.cells #[.int .i64 oT0, .int .i64 oL0] 23 (0, 0)) := (by repeat (first | with_reducible exact x_p2_2 | with_reducible refine blk_below ?_ hB3 | with_reducible refine blk_drew ?_)); have x_p3_3 : ww3.heap[g3]? = some (.cells #[.int .i64 oT1, .int .i64 oL1] 23 (0, 0)) := (by repeat (first | with_reducible exact x_p3_2 | with_reducible refine blk_below ?_ hB3 | with_reducible refine blk_drew ?_)); have x_p4_3 : ww3.heap[g4]? = some (.cells #[.int .i64 oT1, .int .i64 oL1] 23 (0, 0)) := (by repeat (first | with_reducible exact x_p4_2 | with_reducible refine blk_below ?_ hB3 | with_reducible refine blk_drew ?_)); have x_p5_3 : ww3.heap[g5]? = some (.cells #[.int .i64 oT2, .int .i64 oL2] 23 (0, 0)) := (by repeat (first | with_reducible exact x_p5_2 | with_reducible refine blk_below ?_ hB3 | with_reducible refine blk_drew ?_)); have x_p6_3 : ww3.heap[g6]? = some (.cells #[.int .i64 oT2, .int .i64 oL2] 23 (0, 0)) := (by repeat (first | with_reducible exact x_p6_2 | with_reducible refine blk_below ?_ hB3 | with_reducible refine blk_drew ?_)); have x_p7_3 : ww3.heap[g7]? = some (.cells #[.int .i64 oT3, .int .i64 oL3] 23 (0, 0)) := (by repeat (first | with_reducible exact x_p7_2 | with_reducible refine blk_below ?_ hB3 | with_reducible refine blk_drew ?_)); have x_p8_3 : ww3.heap[g8]? = some (.cells #[.int .i64 oT3, .int .i64 oL3] 23 (0, 0)) := (by repeat (first | with_reducible exact x_p8_2 | with_reducible refine blk_below ?_ hB3 | with_reducible refine blk_drew ?_)); have HB_3 : Below w.heap.size w ww3 := (by repeat (first | with_reducible exact HB_2 | with_reducible refine bl_then ?_ hB3 | with_reducible refine bl_drew ?_)); have P3 := j2 (cx2 (x_a_3)) (j2 (cx2 (x_p1_3)) (j2 (cx2 (x_p2_3)) (j2 (cx2 (x_p3_3)) (j2 (cx2 (x_p4_3)) (j2 (cx2 (x_p5_3)) (j2 (cx2 (x_p6_3)) (j2 (cx2 (x_p7_3)) (cx2 (x_p8_3)))))))))) | (have _hh := HB_1; go_at_call 12; refine (rvalid_calls t1 l1 _ I1.out.1.1 I1.out.1.2 I1.out.2.1 I1.out.2.2).mono ?_; rintro e ww2 ⟨hev, hB2⟩; rw [hbv.out] at hev; subst hev; have x_a_2 : ww2.heap[w.heap.size]? = some (.cells #[.int .i64 t1, .int .i64 l1] 23 (0, 0)) := (by repeat (first | with_reducible exact x_a_1 | with_reducible refine blk_below ?_ hB2 | with_reducible refine blk_drew ?_)); have x_p1_2 : ww2.heap[g1]? = some (.cells #[.int .i64 oT0, .int .i64 oL0] 23 (0, 0)) := (by repeat (first | with_reducible exact x_p1_1 | with_reducible refine blk_below ?_ hB2 | with_reducible refine blk_drew ?_)); have x_p2_2 : ww2.heap[g2]? = some (.cells #[.int .i64 oT0, .int .i64 oL0] 23 (0, 0)) := (by repeat (first | with_reducible exact x_p2_1 | with_reducible refine blk_below ?_ hB2 | with_reducible refine blk_drew ?_)); have x_p3_2 : ww2.heap[g3]? = some (.cells #[.int .i64 oT1, .int .i64 oL1] 23 (0, 0)) := (by repeat (first | with_reducible exact x_p3_1 | with_reducible refine blk_below ?_ hB2 | with_reducible refine blk_drew ?_)); have x_p4_2 : ww2.heap[g4]? = some (.cells #[.int .i64 oT1, .int .i64 oL1] 23 (0, 0)) := (by repeat (first | with_reducible exact x_p4_1 | with_reducible refine blk_below ?_ hB2 | with_reducible refine blk_drew ?_)); have x_p5_2 : ww2.heap[g5]? = some (.cells #[.int .i64 oT2, .int .i64 oL2] 23 (0, 0)) := (by repeat (first | with_reducible exact x_p5_1 | with_reducible refine blk_below ?_ hB2 | with_reducible refine blk_drew ?_)); have x_p6_2 : ww2.heap[g6]? = some (.cells #[.int .i64 oT2, .int .i64 oL2] 23 (0, 0)) := (by repeat (first | with_reducible exact x_p6_1 | with_reducible refine blk_below ?_ hB2 | with_reducible refine blk_drew ?_)); have x_p7_2 : ww2.heap[g7]? = some (.cells #[.int .i64 oT3, .int .i64 oL3] 23 (0, 0)) := (by repeat (first | with_reducible exact x_p7_1 | with_reducible refine blk_below ?_ hB2 | with_reducible refine blk_drew ?_)); have x_p8_2 : ww2.heap[g8]? = some (.cells #[.int .i64 oT3, .int .i64 oL3] 23 (0, 0)) := (by repeat (first | with_reducible exact x_p8_1 | with_reducible refine blk_below ?_ hB2 | with_reducible refine blk_drew ?_)); have HB_2 : Below w.heap.size w ww2 := (by repeat (first | with_reducible exact HB_1 | with_reducible refine bl_then ?_ hB2 | with_reducible refine bl_drew ?_)); have P2 := j2 (cx2 (x_a_2)) (j2 (cx2 (x_p1_2)) (j2 (cx2 (x_p2_2)) (j2 (cx2 (x_p3_2)) (j2 (cx2 (x_p4_2)) (j2 (cx2 (x_p5_2)) (j2 (cx2 (x_p6_2)) (j2 (cx2 (x_p7_2)) (cx2 (x_p8_2)))))))))) | (go_at_call 31; refine (valid_calls t1 l1 _ I1.out.1.1 I1.out.1.2 I1.out.2.1 I1.out.2.2).mono ?_; rintro e ww1 ⟨hev, hB1⟩; rw [hbv.out] at hev; subst hev; have x_a_1 : ww1.heap[w.heap.size]? = some (.cells #[.int .i64 t1, .int .i64 l1] 23 (0, 0)) := (by repeat (first | with_reducible exact x_a_0 | with_reducible refine blk_below ?_ hB1 | with_reducible refine blk_drew ?_)); have x_p1_1 : ww1.heap[g1]? = some (.cells #[.int .i64 oT0, .int .i64 oL0] 23 (0, 0)) := (by repeat (first | with_reducible exact x_p1_0 | with_reducible refine blk_below ?_ hB1 | with_reducible refine blk_drew ?_)); have x_p2_1 : ww1.heap[g2]? = some (.cells #[.int .i64 oT0, .int .i64 oL0] 23 (0, 0)) := (by repeat (first | with_reducible exact x_p2_0 | with_reducible refine blk_below ?_ hB1 | with_reducible refine blk_drew ?_)); have x_p3_1 : ww1.heap[g3]? = some (.cells #[.int .i64 oT1, .int .i64 oL1] 23 (0, 0)) := (by repeat (first | with_reducible exact x_p3_0 | with_reducible refine blk_below ?_ hB1 | with_reducible refine blk_drew ?_)); have x_p4_1 : ww1.heap[g4]? = some (.cells #[.int .i64 oT1, .int .i64 oL1] 23 (0, 0)) := (by repeat (first | with_reducible exact x_p4_0 | with_reducible refine blk_below ?_ hB1 | with_reducible refine blk_drew ?_)); have x_p5_1 : ww1.heap[g5]? = some (.cells #[.int .i64 oT2, .int .i64 oL2] 23 (0, 0)) := (by repeat (first | with_reducible exact x_p5_0 | with_reducible refine blk_below ?_ hB1 | with_reducible refine blk_drew ?_)); have x_p6_1 : ww1.heap[g6]? = some (.cells #[.int .i64 oT2, .int .i64 oL2] 23 (0, 0)) := (by repeat (first | with_reducible exact x_p6_0 | with_reducible refine blk_below ?_ hB1 | with_reducible refine blk_drew ?_)); have x_p7_1 : ww1.heap[g7]? = some (.cells #[.int .i64 oT3, .int .i64 oL3] 23 (0, 0)) := (by repeat (first | with_reducible exact x_p7_0 | with_reducible refine blk_below ?_ hB1 | with_reducible refine blk_drew ?_)); have x_p8_1 : ww1.heap[g8]? = some (.cells #[.int .i64 oT3, .int .i64 oL3] 23 (0, 0)) := (by repeat (first | with_reducible exact x_p8_0 | with_reducible refine blk_below ?_ hB1 | with_reducible refine blk_drew ?_)); have HB_1 : Below w.heap.size w ww1 := (by repeat (first | with_reducible exact HB_0 | with_reducible refine bl_then ?_ hB1 | with_reducible refine bl_drew ?_)); have P1 := j2 (cx2 (x_a_1)) (j2 (cx2 (x_p1_1)) (j2 (cx2 (x_p2_1)) (j2 (cx2 (x_p3_1)) (j2 (cx2 (x_p4_1)) (j2 (cx2 (x_p5_1)) (j2 (cx2 (x_p6_1)) (j2 (cx2 (x_p7_1)) (cx2 (x_p8_1)))))))))) | fail)
    all_goals
      go_wp2
      go_ret
      exact ⟨rfl, HB_3⟩
end Go.Proofs.Ytijdnlkojflnkaa
