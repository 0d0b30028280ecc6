/- reference: Fraction, Floor, Ceil, Between. -/
import Derived.Test.YtijdnlkojflnkaaRef14
import Derived.Test.YtijdnlkojflnkaaRef13
set_option linter.unusedVariables false
set_option linter.unusedSimpArgs false
namespace Go.Proofs.Ytijdnlkojflnkaa
open Go.RowKit

set_option maxHeartbeats 4000000 in
set_option maxRecDepth 100000 in
theorem rnfrac_calls (x y : Int) (w : World) (h0 : -9223372036854775808 ≤ x) (h1 : x ≤ 9223372036854775807) (h2 : -9223372036854775808 ≤ y) (h3 : y ≤ 9223372036854775807) :
    Calls Try.prog 20 #[.int .i64 x, .int .i64 y] w fun e w' => NumR e (mT x y) (mL x y) (mE x y) ∧ Below w.heap.size w w' := by
  unfold mT mL mE
  have a3 : (w.alloc (.cells #[.int .i64 0, .int .i64 0] 23)).heap[w.heap.size]? = some (.cells #[.int .i64 0, .int .i64 0] 23 (0, 0)) := blk_at _ rfl
  have B0 := bl_alloc (Below.refl w.heap.size w) (.cells #[.int .i64 0, .int .i64 0] 23)
  by_cases hz : y = 0
  · rw [if_pos hz, if_pos hz, if_pos hz]
    subst hz
    obtain ⟨z1, z2, z3, z4⟩ := bx2 a3
    go_enter Try.func20, Try.ntmps20
    go_wp2
    refine bodyPost_ret (results_cell_tmp_row rfl _ _ w.heap.size 23 #[.int .i64 0, .int .i64 0] (0, 0) _ _ rfl (by first | exact a3 | exact blk_set2 a3 _ _) Try.underlying23 rfl (by kernel_rfl) rfl) rfl ?_
    exact ⟨rfl, by first | exact B0 | exact bl_set (bl_set B0 (Nat.le_refl _) _) (Nat.le_refl _) _⟩
  · rw [if_neg hz, if_neg hz, if_neg hz]
    have hzb : (y == 0) = false := by simp [hz]
    replace hz : Hid (y ≠ 0) := Lib.hid hz
    generalize hT : outT (Rat.divInt x y) = oT
    generalize hL : outL (Rat.divInt x y) = oL
    generalize hE : outE (Rat.divInt x y) = oE
    replace hT := Lib.hid hT
    replace hL := Lib.hid hL
    replace hE := Lib.hid hE
    go_enter Try.func20, Try.ntmps20
    go_wp2_with fail
    refine (rof_calls x _ h0 h1).mono ?_
    rintro e w1 ⟨⟨s1, b1, A1, n1, c1, rfl, g1⟩, hB1⟩
    replace a3 := blk_below a3 hB1
    replace B0 := bl_then B0 hB1
    clear hB1
    go_wp2_with fail
    refine (rof_calls y _ h2 h3).mono ?_
    rintro e w2 ⟨⟨s2, b2, A2, n2, c2, rfl, g2⟩, hB2⟩
    replace a3 := blk_below a3 hB2
    replace B0 := bl_then B0 hB2
    replace g1 := g1.below hB2
    clear hB2
    go_wp2_with fail
    refine (rmake_calls s1 b1 A1 n1 c1 x s2 b2 A2 n2 c2 y _ g1 g2 64 (Sz.small (by omega) (by omega)) (Sz.small (by omega) (by omega)) (by omega) (by omega) hz.out).mono ?_
    rintro e w3 ⟨⟨s3, b3, A3, n3, c3, s3', b3', A3', n3', c3', rfl, g3⟩, hB3⟩
    replace a3 := blk_below a3 hB3
    replace B0 := bl_then B0 hB3
    clear hB3 g1 g2
    go_wp2_with fail
    refine (rnum_calls s3 b3 A3 n3 c3 s3' b3' A3' n3' c3' _ _ g3).mono ?_
    rintro e w4 ⟨he, hB4⟩
    rw [hT.out, hL.out, hE.out] at he
    unfold NumR at he
    subst he
    replace a3 := blk_below a3 hB4
    replace B0 := bl_then B0 hB4
    clear hB4
    obtain ⟨z1, z2, z3, z4⟩ := bx2 a3
    go_wp2
    refine bodyPost_ret (results_cell_tmp_row rfl _ _ w.heap.size 23 #[.int .i64 oT, .int .i64 oL] (0, 0) _ _ rfl (by exact blk_set2 a3 _ _) Try.underlying23 rfl (by kernel_rfl) rfl) rfl ?_
    exact ⟨rfl, bl_set (bl_set B0 (Nat.le_refl _) _) (Nat.le_refl _) _⟩

set_option maxHeartbeats 4000000 in
set_option maxRecDepth 100000 in
theorem rnfloor_calls (t l : Int) (w : World) (h0 : -9223372036854775808 ≤ t) (h1 : t ≤ 9223372036854775807) (h2 : -9223372036854775808 ≤ l) (h3 : l ≤ 9223372036854775807) :
    Calls Try.prog 22 #[.agg #[.int .i64 t, .int .i64 l]] w fun e w' => e = .returned (.tuple #[.int .i64 (flR t l), .int .i64 (flE t l)]) ∧ Below w.heap.size w w' := by
  unfold flR flE
  by_cases hv : OkN t l
  · rw [if_pos hv, if_pos hv]
    have N := num_sz hv
    have FB := floor_bd (Rat.divInt t l) (by rw [N.2.1]; have := hv.2.2; omega) (by rw [N.2.1]; have := hv.2.2; omega)
    have SZ := Lib.hid N.1
    generalize hF : (Rat.divInt t l).floor = fl at *
    replace hF := Lib.hid hF
    clear N
    have hd := Lib.hid (decide_eq_true hv)
    replace hv := Lib.hid hv
    go_enter Try.func22, Try.ntmps22
    go_wp2_with fail
    have B0 := bl_alloc (Below.refl w.heap.size w) (.cells #[.int .i64 t, .int .i64 l] 23)
    have a1 : (w.alloc (.cells #[.int .i64 t, .int .i64 l] 23)).heap[w.heap.size]? = some (.cells #[.int .i64 t, .int .i64 l] 23 (0, 0)) := blk_at _ rfl
    generalize w.alloc (.cells #[.int .i64 t, .int .i64 l] 23) = W0 at *
    refine (rvalid_calls t l _ h0 h1 h2 h3).mono ?_
    rintro e w1 ⟨he, hB1⟩
    rw [hd.out] at he
    subst he
    replace a1 := blk_below a1 hB1
    replace B0 := bl_then B0 hB1
    clear hB1
    obtain ⟨p1, p2, p3, p4⟩ := bx2 a1
    go_wp2_with fail
    refine (rto_calls t l _ hv.out).mono ?_
    rintro e w2 ⟨⟨s2, b2, A2, n2, c2, s2', b2', A2', n2', c2', rfl, g2⟩, hB2⟩
    replace B0 := bl_then B0 hB2
    clear hB2 p1 p2 p3 p4 a1
    go_wp2_with fail
    refine (rdown_calls s2 b2 A2 n2 c2 s2' b2' A2' n2' c2' _ _ g2 64 SZ.out (by omega)).mono ?_
    rintro e w3 ⟨⟨s3, b3, A3, n3, c3, rfl, g3⟩, hB3⟩
    rw [hF.out] at g3
    replace B0 := bl_then B0 hB3
    clear hB3 g2
    go_wp2_with fail
    refine (small_yes s3 b3 A3 n3 c3 fl _ g3 (by omega) (by omega)).mono ?_
    rintro e w4 ⟨rfl, hB4⟩
    replace B0 := bl_then B0 hB4
    clear hB4
    go_wp2
    go_ret2
    exact ⟨rfl, B0⟩
  · rw [if_neg hv, if_neg hv]
    have hd := Lib.hid (decide_eq_false hv)
    replace hv := Lib.hid hv
    go_enter Try.func22, Try.ntmps22
    go_wp2_with fail
    have B0 := bl_alloc (Below.refl w.heap.size w) (.cells #[.int .i64 t, .int .i64 l] 23)
    have a1 : (w.alloc (.cells #[.int .i64 t, .int .i64 l] 23)).heap[w.heap.size]? = some (.cells #[.int .i64 t, .int .i64 l] 23 (0, 0)) := blk_at _ rfl
    generalize w.alloc (.cells #[.int .i64 t, .int .i64 l] 23) = W0 at *
    refine (rvalid_calls t l _ h0 h1 h2 h3).mono ?_
    rintro e w1 ⟨he, hB1⟩
    rw [hd.out] at he
    subst he
    replace a1 := blk_below a1 hB1
    replace B0 := bl_then B0 hB1
    clear hB1
    go_wp2
    go_ret2
    exact ⟨rfl, B0⟩

set_option maxHeartbeats 4000000 in
set_option maxRecDepth 100000 in
theorem rnceil_calls (t l : Int) (w : World) (h0 : -9223372036854775808 ≤ t) (h1 : t ≤ 9223372036854775807) (h2 : -9223372036854775808 ≤ l) (h3 : l ≤ 9223372036854775807) :
    Calls Try.prog 24 #[.agg #[.int .i64 t, .int .i64 l]] w fun e w' => e = .returned (.tuple #[.int .i64 (ceR t l), .int .i64 (ceE t l)]) ∧ Below w.heap.size w w' := by
  unfold ceR ceE
  by_cases hv : OkN t l
  · rw [if_pos hv, if_pos hv]
    have N := num_sz hv
    have FB := floor_bd (-Rat.divInt t l) (by rw [Rat.neg_num, N.2.1]; have := hv.2.2; omega) (by rw [Rat.neg_num, N.2.1]; have := hv.2.2; omega)
    have SZ := Lib.hid N.1
    generalize hF : (-Rat.divInt t l).floor = fl at *
    replace hF := Lib.hid hF
    clear N
    have hd := Lib.hid (decide_eq_true hv)
    replace hv := Lib.hid hv
    go_enter Try.func24, Try.ntmps24
    go_wp2_with fail
    have B0 := bl_alloc (Below.refl w.heap.size w) (.cells #[.int .i64 t, .int .i64 l] 23)
    have a1 : (w.alloc (.cells #[.int .i64 t, .int .i64 l] 23)).heap[w.heap.size]? = some (.cells #[.int .i64 t, .int .i64 l] 23 (0, 0)) := blk_at _ rfl
    generalize w.alloc (.cells #[.int .i64 t, .int .i64 l] 23) = W0 at *
    refine (rvalid_calls t l _ h0 h1 h2 h3).mono ?_
    rintro e w1 ⟨he, hB1⟩
    rw [hd.out] at he
    subst he
    replace a1 := blk_below a1 hB1
    replace B0 := bl_then B0 hB1
    clear hB1
    obtain ⟨p1, p2, p3, p4⟩ := bx2 a1
    go_wp2_with fail
    refine (rto_calls t l _ hv.out).mono ?_
    rintro e w2 ⟨⟨s2, b2, A2, n2, c2, s2', b2', A2', n2', c2', rfl, g2⟩, hB2⟩
    replace B0 := bl_then B0 hB2
    clear hB2 p1 p2 p3 p4 a1
    go_wp2_with fail
    refine (rrminus_calls s2 b2 A2 n2 c2 s2' b2' A2' n2' c2' _ _ g2).mono ?_
    rintro e w5 ⟨⟨s5, b5, A5, n5, c5, s5', b5', A5', n5', c5', rfl, g5⟩, hB5⟩
    replace B0 := bl_then B0 hB5
    clear hB5 g2
    go_wp2_with fail
    refine (rdown_calls s5 b5 A5 n5 c5 s5' b5' A5' n5' c5' _ _ g5 64 (szr_neg SZ.out) (by omega)).mono ?_
    rintro e w3 ⟨⟨s3, b3, A3, n3, c3, rfl, g3⟩, hB3⟩
    rw [hF.out] at g3
    replace B0 := bl_then B0 hB3
    clear hB3 g5
    go_wp2_with fail
    refine (rminus_calls s3 b3 A3 n3 c3 fl _ g3).mono ?_
    rintro e w6 ⟨rfl, hB6⟩
    have g6 := (g3.below hB6).neg
    replace B0 := bl_then B0 hB6
    clear hB6 g3
    go_wp2_with fail
    refine (small_yes _ _ A3 n3 c3 (-fl) _ g6 (by omega) (by omega)).mono ?_
    rintro e w4 ⟨rfl, hB4⟩
    replace B0 := bl_then B0 hB4
    clear hB4
    go_wp2
    go_ret2
    exact ⟨rfl, B0⟩
  · rw [if_neg hv, if_neg hv]
    have hd := Lib.hid (decide_eq_false hv)
    replace hv := Lib.hid hv
    go_enter Try.func24, Try.ntmps24
    go_wp2_with fail
    have B0 := bl_alloc (Below.refl w.heap.size w) (.cells #[.int .i64 t, .int .i64 l] 23)
    have a1 : (w.alloc (.cells #[.int .i64 t, .int .i64 l] 23)).heap[w.heap.size]? = some (.cells #[.int .i64 t, .int .i64 l] 23 (0, 0)) := blk_at _ rfl
    generalize w.alloc (.cells #[.int .i64 t, .int .i64 l] 23) = W0 at *
    refine (rvalid_calls t l _ h0 h1 h2 h3).mono ?_
    rintro e w1 ⟨he, hB1⟩
    rw [hd.out] at he
    subst he
    replace a1 := blk_below a1 hB1
    replace B0 := bl_then B0 hB1
    clear hB1
    go_wp2
    go_ret2
    exact ⟨rfl, B0⟩

set_option maxHeartbeats 40000000 in
set_option maxRecDepth 100000 in
theorem rnbetween_calls (t l t' l' : Int) (w : World) (h0 : -9223372036854775808 ≤ t) (h1 : t ≤ 9223372036854775807) (h2 : -9223372036854775808 ≤ l) (h3 : l ≤ 9223372036854775807) (h0' : -9223372036854775808 ≤ t') (h1' : t' ≤ 9223372036854775807) (h2' : -9223372036854775808 ≤ l') (h3' : l' ≤ 9223372036854775807) :
    Calls Try.prog 10 #[.agg #[.int .i64 t, .int .i64 l], .agg #[.int .i64 t', .int .i64 l']] w fun e w' => BtwR t l t' l' e ∧ Below w.heap.size w w' := by
  by_cases hok : OkN t l ∧ OkN t' l'
  · have okk := Lib.hid hok
    have DEC : Hid (decide (OkNs [(t, l), (t', l')]) = true) := Lib.hid (decide_eq_true ((OkNs.two _ _ _ _).2 hok))
    have I64P : Hid (I64s [(t, l), (t', l')]) := Lib.hid (by intro x hx; simp at hx; rcases hx with rfl | rfl; exact ⟨⟨h0, h1⟩, h2, h3⟩; exact ⟨⟨h0', h1'⟩, h2', h3'⟩)
    have SQ := (num_sz hok.1).1
    have SR := (num_sz hok.2).1
    have ok1 := Lib.hid hok.1
    have ok2 := Lib.hid hok.2
    have NQ := Lib.hid hok.1.num
    have NR := Lib.hid hok.2.num
    clear hok
    generalize hq : Rat.divInt t l = q at *
    generalize hr : Rat.divInt t' l' = r at *
    have HQ := Lib.hid hq
    have HR := Lib.hid hr
    clear hq hr
    generalize hsg : (q - r).num.sign = sg
    have HSG := Lib.hid hsg
    have HSL := Lib.hid (show sg ≤ 0 ↔ q ≤ r by rw [← hsg]; exact sub_sign_le _ _)
    clear hsg
    go_enter Try.func10, Try.ntmps10
    go_wp2_with fail
    have B0 := bl_alloc (bl_alloc (bl_alloc (bl_alloc (Below.refl w.heap.size w) (.cells #[.int .i64 t, .int .i64 l] 23)) (.cells #[.int .i64 t', .int .i64 l'] 23)) (.cells #[.int .i64 0, .int .i64 0] 23)) (.cells #[.int .i64 t, .int .i64 l, .int .i64 t', .int .i64 l'] 23)
    have a1 : ((((w.alloc (.cells #[.int .i64 t, .int .i64 l] 23)).alloc (.cells #[.int .i64 t', .int .i64 l'] 23)).alloc (.cells #[.int .i64 0, .int .i64 0] 23)).alloc (.cells #[.int .i64 t, .int .i64 l, .int .i64 t', .int .i64 l'] 23)).heap[w.heap.size]? = some (.cells #[.int .i64 t, .int .i64 l] 23 (0, 0)) := blk_alloc (blk_alloc (blk_alloc (blk_at _ rfl) _) _) _
    have a2 : ((((w.alloc (.cells #[.int .i64 t, .int .i64 l] 23)).alloc (.cells #[.int .i64 t', .int .i64 l'] 23)).alloc (.cells #[.int .i64 0, .int .i64 0] 23)).alloc (.cells #[.int .i64 t, .int .i64 l, .int .i64 t', .int .i64 l'] 23)).heap[w.heap.size + 1]? = some (.cells #[.int .i64 t', .int .i64 l'] 23 (0, 0)) := blk_alloc (blk_alloc (blk_at _ (by simp)) _) _
    have a3 : ((((w.alloc (.cells #[.int .i64 t, .int .i64 l] 23)).alloc (.cells #[.int .i64 t', .int .i64 l'] 23)).alloc (.cells #[.int .i64 0, .int .i64 0] 23)).alloc (.cells #[.int .i64 t, .int .i64 l, .int .i64 t', .int .i64 l'] 23)).heap[w.heap.size + 1 + 1]? = some (.cells #[.int .i64 0, .int .i64 0] 23 (0, 0)) := blk_alloc (blk_at _ (by simp)) _
    have a4 : ((((w.alloc (.cells #[.int .i64 t, .int .i64 l] 23)).alloc (.cells #[.int .i64 t', .int .i64 l'] 23)).alloc (.cells #[.int .i64 0, .int .i64 0] 23)).alloc (.cells #[.int .i64 t, .int .i64 l, .int .i64 t', .int .i64 l'] 23)).heap[w.heap.size + 1 + 1 + 1]? = some (.cells #[.int .i64 t, .int .i64 l, .int .i64 t', .int .i64 l'] 23 (0, 0)) := blk_at _ (by simp)
    generalize (((w.alloc (.cells #[.int .i64 t, .int .i64 l] 23)).alloc (.cells #[.int .i64 t', .int .i64 l'] 23)).alloc (.cells #[.int .i64 0, .int .i64 0] 23)).alloc (.cells #[.int .i64 t, .int .i64 l, .int .i64 t', .int .i64 l'] 23) = W0 at *
    refine (rall_calls _ 2 2 [(t, l), (t', l')] _ (RdN.two a4) I64P.out).mono ?_
    rintro e w1 ⟨he, hB1⟩
    rw [DEC.out] at he
    subst he
    replace a1 := blk_below a1 hB1
    replace a2 := blk_below a2 hB1
    replace a3 := blk_below a3 hB1
    replace B0 := bl_then B0 hB1
    clear hB1 a4
    have N13 := Lib.hid (show w.heap.size ≠ w.heap.size + 1 + 1 by omega)
    have N23 := Lib.hid (show w.heap.size + 1 ≠ w.heap.size + 1 + 1 by omega)
    go_upto_region 3 with (fail)
    go_cut [13] (fun x wc => x = .bool (decide (0 < sg)) ∧ wc.heap[w.heap.size]? = some (.cells #[.int .i64 t, .int .i64 l] 23 (0, 0)) ∧ wc.heap[w.heap.size + 1]? = some (.cells #[.int .i64 t', .int .i64 l'] 23 (0, 0)) ∧ wc.heap[w.heap.size + 1 + 1]? = some (.cells #[.int .i64 0, .int .i64 0] 23 (0, 0)) ∧ Below w.heap.size w wc)
    case first =>
      have a1_0 := a1
      have a2_0 := a2
      have a3_0 := a3
      have HB_0 := B0
      obtain ⟨p1, p2, p3, p4⟩ := bx2 a1
      obtain ⟨q1, q2, q3, q4⟩ := bx2 a2
      go_region_held3 (fun W => W.cell? ⟨w.heap.size, 0, none⟩ = some (Value.int .i64 t) ∧ W.cell? ⟨w.heap.size, 1, none⟩ = some (Value.int .i64 l) ∧ W.cell? ⟨w.heap.size + 1, 0, none⟩ = some (Value.int .i64 t') ∧ W.cell? ⟨w.heap.size + 1, 1, none⟩ = some (Value.int .i64 l')) (first | with_reducible exact P3 | with_reducible exact P2 | with_reducible exact P1 | with_reducible exact (j2 (cx2 (blk_drew a1_0)) (cx2 (blk_drew a2_0))) | go_keep) (first | (have _hh := HB_2; go_at_call 14; refine (rrcmp_calls s1 b1 A1 n1 c1 s1' b1' A1' n1' c1' q s2 b2 A2 n2 c2 s2' b2' A2' n2' c2' r _ (by repeat (first | with_reducible exact r1_2 | with_reducible refine RRV.kp ?_ (Kp.refl _ _).drew)) (by repeat (first | with_reducible exact r2_2 | with_reducible refine RRV.kp ?_ (Kp.refl _ _).drew)) 64 SQ SR (by omega)).mono ?_; rintro e ww3 ⟨hec, hB3⟩; rw [HSG.out] at hec; subst hec; have a1_3 : ww3.heap[w.heap.size]? = some (.cells #[.int .i64 t, .int .i64 l] 23 (0, 0)) := (by repeat (first | with_reducible exact a1_2 | with_reducible refine blk_below ?_ hB3 | with_reducible refine blk_drew ?_)); have a2_3 : ww3.heap[w.heap.size + 1]? = some (.cells #[.int .i64 t', .int .i64 l'] 23 (0, 0)) := (by repeat (first | with_reducible exact a2_2 | with_reducible refine blk_below ?_ hB3 | with_reducible refine blk_drew ?_)); have a3_3 : ww3.heap[w.heap.size + 1 + 1]? = some (.cells #[.int .i64 0, .int .i64 0] 23 (0, 0)) := (by repeat (first | with_reducible exact a3_2 | with_reducible refine blk_below ?_ hB3 | with_reducible refine blk_drew ?_)); have r1_3 : RRV ww3 s1 b1 A1 n1 c1 s1' b1' A1' n1' c1' q := (by repeat (first | with_reducible exact r1_2 | with_reducible refine RRV.below ?_ hB3 | with_reducible refine RRV.kp ?_ (Kp.refl _ _).drew)); have r2_3 : RRV ww3 s2 b2 A2 n2 c2 s2' b2' A2' n2' c2' r := (by repeat (first | with_reducible exact r2_2 | with_reducible refine RRV.below ?_ hB3 | with_reducible refine RRV.kp ?_ (Kp.refl _ _).drew)); have HB_3 : Below w.heap.size w ww3 := (by repeat (first | with_reducible exact HB_2 | with_reducible refine bl_then ?_ hB3 | with_reducible refine bl_drew ?_)); have P3 := j2 (cx2 (a1_3)) (cx2 (a2_3))) | (have _hh := HB_1; go_at_call_of 13 (Value.agg #[.int .i64 t', .int .i64 l']); refine (rto_calls t' l' _ ok2.out).mono ?_; rintro e ww2 ⟨⟨s2, b2, A2, n2, c2, s2', b2', A2', n2', c2', rfl, r2_2⟩, hB2⟩; rw [HR.out] at r2_2; have a1_2 : ww2.heap[w.heap.size]? = some (.cells #[.int .i64 t, .int .i64 l] 23 (0, 0)) := (by repeat (first | with_reducible exact a1_1 | with_reducible refine blk_below ?_ hB2 | with_reducible refine blk_drew ?_)); have a2_2 : ww2.heap[w.heap.size + 1]? = some (.cells #[.int .i64 t', .int .i64 l'] 23 (0, 0)) := (by repeat (first | with_reducible exact a2_1 | with_reducible refine blk_below ?_ hB2 | with_reducible refine blk_drew ?_)); have a3_2 : ww2.heap[w.heap.size + 1 + 1]? = some (.cells #[.int .i64 0, .int .i64 0] 23 (0, 0)) := (by repeat (first | with_reducible exact a3_1 | with_reducible refine blk_below ?_ hB2 | with_reducible refine blk_drew ?_)); have r1_2 : RRV ww2 s1 b1 A1 n1 c1 s1' b1' A1' n1' c1' q := (by repeat (first | with_reducible exact r1_1 | with_reducible refine RRV.below ?_ hB2 | with_reducible refine RRV.kp ?_ (Kp.refl _ _).drew)); have HB_2 : Below w.heap.size w ww2 := (by repeat (first | with_reducible exact HB_1 | with_reducible refine bl_then ?_ hB2 | with_reducible refine bl_drew ?_)); have P2 := j2 (cx2 (a1_2)) (cx2 (a2_2))) | (go_at_call_of 13 (Value.agg #[.int .i64 t, .int .i64 l]); refine (rto_calls t l _ ok1.out).mono ?_; rintro e ww1 ⟨⟨s1, b1, A1, n1, c1, s1', b1', A1', n1', c1', rfl, r1_1⟩, hB1⟩; rw [HQ.out] at r1_1; have a1_1 : ww1.heap[w.heap.size]? = some (.cells #[.int .i64 t, .int .i64 l] 23 (0, 0)) := (by repeat (first | with_reducible exact a1_0 | with_reducible refine blk_below ?_ hB1 | with_reducible refine blk_drew ?_)); have a2_1 : ww1.heap[w.heap.size + 1]? = some (.cells #[.int .i64 t', .int .i64 l'] 23 (0, 0)) := (by repeat (first | with_reducible exact a2_0 | with_reducible refine blk_below ?_ hB1 | with_reducible refine blk_drew ?_)); have a3_1 : ww1.heap[w.heap.size + 1 + 1]? = some (.cells #[.int .i64 0, .int .i64 0] 23 (0, 0)) := (by repeat (first | with_reducible exact a3_0 | with_reducible refine blk_below ?_ hB1 | with_reducible refine blk_drew ?_)); have HB_1 : Below w.heap.size w ww1 := (by repeat (first | with_reducible exact HB_0 | with_reducible refine bl_then ?_ hB1 | with_reducible refine bl_drew ?_)); have P1 := j2 (cx2 (a1_1)) (cx2 (a2_1))) | fail)
      all_goals
        go_wp2
        go_meet
        case rel => exact ⟨rfl, a1_3, a2_3, a3_3, HB_3⟩
    case rest =>
      clear a1 a2 a3 B0
      obtain ⟨rfl, a1, a2, a3, B0⟩ := hcut
      by_cases hx : q ≤ r
      · have hsl : sg ≤ 0 := HSL.out.2 hx
        rw [show decide (0 < sg) = false by simp; omega]
        replace hx := Lib.hid hx
        by_cases ht : t ≤ 0
        · by_cases ht' : 0 ≤ t'
          · clear hsl
            obtain ⟨p1, p2, p3, p4⟩ := bx2 a1
            obtain ⟨q1, q2, q3, q4⟩ := bx2 a2
            obtain ⟨z1, z2, z3, z4⟩ := bx2 a3
            go_wp2
            refine bodyPost_ret (results_cell_tmp_row rfl _ _ (w.heap.size + 1 + 1) 23 #[.int .i64 0, .int .i64 1] (0, 0) _ _ rfl (by first | exact a3 | exact blk_set2 a3 _ _) Try.underlying23 rfl (by kernel_rfl) rfl) rfl ?_
            exact ⟨⟨_, _, _, rfl, by rw [← HQ.out, ← HR.out] at hx; exact .inr ⟨okk.out, .inr ⟨hx.out, .inl ⟨ht, ht', rfl, rfl, rfl⟩⟩⟩⟩, by first | exact B0 | exact bl_set (bl_set B0 (by show w.heap.size ≤ w.heap.size + 1 + 1; omega) _) (by show w.heap.size ≤ w.heap.size + 1 + 1; omega) _⟩
          · have NG0 := Lib.hid (show 0 ≤ (-r).num ∧ -r ≤ -q from ⟨by rw [Rat.neg_num, NR.out]; omega, Rat.neg_le_neg hx.out⟩)
            have ht0 : ¬ 0 < t := by omega
            have a1_0 := a1
            have a2_0 := a2
            have a3_0 := a3
            have HB_0 := B0
            obtain ⟨p1, p2, p3, p4⟩ := bx2 a1
            obtain ⟨q1, q2, q3, q4⟩ := bx2 a2
            go_upto_region 9 with (fail)
            go_region_held3 (fun W => W.cell? ⟨w.heap.size, 0, none⟩ = some (Value.int .i64 t) ∧ W.cell? ⟨w.heap.size, 1, none⟩ = some (Value.int .i64 l) ∧ W.cell? ⟨w.heap.size + 1, 0, none⟩ = some (Value.int .i64 t') ∧ W.cell? ⟨w.heap.size + 1, 1, none⟩ = some (Value.int .i64 l')) (first | with_reducible exact P7 | with_reducible exact P6 | with_reducible exact P5 | with_reducible exact P4 | with_reducible exact P3 | with_reducible exact P2 | with_reducible exact P1 | with_reducible exact (j2 (cx2 (blk_drew a1_0)) (cx2 (blk_drew a2_0))) | with_reducible exact (j2 (cx2 (blk_farN (a1_7) N13.out _ _)) (cx2 (blk_farN (a2_7) N23.out _ _))) | go_keep) (first | (have _hh := HB_6; go_at_call 42; refine (rnum_calls s9 b9 A9 n9 c9 s9' b9' A9' n9' c9' (-xx) _ (by repeat (first | with_reducible exact r9_6 | with_reducible refine RRV.kp ?_ (Kp.refl _ _).drew))).mono ?_; rintro e ww7 ⟨hen, hB7⟩; unfold NumR at hen; generalize hT : outT (-xx) = oT at *; have HT := Lib.hid hT; clear hT; generalize hL : outL (-xx) = oL at *; have HL := Lib.hid hL; clear hL; generalize hE : outE (-xx) = oE at *; have HE := Lib.hid hE; clear hE; subst hen; have a1_7 : ww7.heap[w.heap.size]? = some (.cells #[.int .i64 t, .int .i64 l] 23 (0, 0)) := (by repeat (first | with_reducible exact a1_6 | with_reducible refine blk_below ?_ hB7 | with_reducible refine blk_drew ?_)); have a2_7 : ww7.heap[w.heap.size + 1]? = some (.cells #[.int .i64 t', .int .i64 l'] 23 (0, 0)) := (by repeat (first | with_reducible exact a2_6 | with_reducible refine blk_below ?_ hB7 | with_reducible refine blk_drew ?_)); have a3_7 : ww7.heap[w.heap.size + 1 + 1]? = some (.cells #[.int .i64 0, .int .i64 0] 23 (0, 0)) := (by repeat (first | with_reducible exact a3_6 | with_reducible refine blk_below ?_ hB7 | with_reducible refine blk_drew ?_)); have r2_7 : RRV ww7 s2 b2 A2 n2 c2 s2' b2' A2' n2' c2' r := (by repeat (first | with_reducible exact r2_6 | with_reducible refine RRV.below ?_ hB7 | with_reducible refine RRV.kp ?_ (Kp.refl _ _).drew)); have r3_7 : RRV ww7 s3 b3 A3 n3 c3 s3' b3' A3' n3' c3' (-r) := (by repeat (first | with_reducible exact r3_6 | with_reducible refine RRV.below ?_ hB7 | with_reducible refine RRV.kp ?_ (Kp.refl _ _).drew)); have r1_7 : RRV ww7 s1 b1 A1 n1 c1 s1' b1' A1' n1' c1' q := (by repeat (first | with_reducible exact r1_6 | with_reducible refine RRV.below ?_ hB7 | with_reducible refine RRV.kp ?_ (Kp.refl _ _).drew)); have r4_7 : RRV ww7 s4 b4 A4 n4 c4 s4' b4' A4' n4' c4' (-q) := (by repeat (first | with_reducible exact r4_6 | with_reducible refine RRV.below ?_ hB7 | with_reducible refine RRV.kp ?_ (Kp.refl _ _).drew)); have r5_7 : RRV ww7 s5 b5 A5 n5 c5 s5' b5' A5' n5' c5' xx := (by repeat (first | with_reducible exact r5_6 | with_reducible refine RRV.below ?_ hB7 | with_reducible refine RRV.kp ?_ (Kp.refl _ _).drew)); have r9_7 : RRV ww7 s9 b9 A9 n9 c9 s9' b9' A9' n9' c9' (-xx) := (by repeat (first | with_reducible exact r9_6 | with_reducible refine RRV.below ?_ hB7 | with_reducible refine RRV.kp ?_ (Kp.refl _ _).drew)); have HB_7 : Below w.heap.size w ww7 := (by repeat (first | with_reducible exact HB_6 | with_reducible refine bl_then ?_ hB7 | with_reducible refine bl_drew ?_)); have P7 := j2 (cx2 (a1_7)) (cx2 (a2_7)); obtain ⟨z1, z2, z3, z4⟩ := bx2 a3_7) | (have _hh := HB_5; go_at_call 44; refine (rrminus_calls s5 b5 A5 n5 c5 s5' b5' A5' n5' c5' xx _ (by repeat (first | with_reducible exact r5_5 | with_reducible refine RRV.kp ?_ (Kp.refl _ _).drew))).mono ?_; rintro e ww6 ⟨⟨s9, b9, A9, n9, c9, s9', b9', A9', n9', c9', rfl, r9_6⟩, hB6⟩; have a1_6 : ww6.heap[w.heap.size]? = some (.cells #[.int .i64 t, .int .i64 l] 23 (0, 0)) := (by repeat (first | with_reducible exact a1_5 | with_reducible refine blk_below ?_ hB6 | with_reducible refine blk_drew ?_)); have a2_6 : ww6.heap[w.heap.size + 1]? = some (.cells #[.int .i64 t', .int .i64 l'] 23 (0, 0)) := (by repeat (first | with_reducible exact a2_5 | with_reducible refine blk_below ?_ hB6 | with_reducible refine blk_drew ?_)); have a3_6 : ww6.heap[w.heap.size + 1 + 1]? = some (.cells #[.int .i64 0, .int .i64 0] 23 (0, 0)) := (by repeat (first | with_reducible exact a3_5 | with_reducible refine blk_below ?_ hB6 | with_reducible refine blk_drew ?_)); have r2_6 : RRV ww6 s2 b2 A2 n2 c2 s2' b2' A2' n2' c2' r := (by repeat (first | with_reducible exact r2_5 | with_reducible refine RRV.below ?_ hB6 | with_reducible refine RRV.kp ?_ (Kp.refl _ _).drew)); have r3_6 : RRV ww6 s3 b3 A3 n3 c3 s3' b3' A3' n3' c3' (-r) := (by repeat (first | with_reducible exact r3_5 | with_reducible refine RRV.below ?_ hB6 | with_reducible refine RRV.kp ?_ (Kp.refl _ _).drew)); have r1_6 : RRV ww6 s1 b1 A1 n1 c1 s1' b1' A1' n1' c1' q := (by repeat (first | with_reducible exact r1_5 | with_reducible refine RRV.below ?_ hB6 | with_reducible refine RRV.kp ?_ (Kp.refl _ _).drew)); have r4_6 : RRV ww6 s4 b4 A4 n4 c4 s4' b4' A4' n4' c4' (-q) := (by repeat (first | with_reducible exact r4_5 | with_reducible refine RRV.below ?_ hB6 | with_reducible refine RRV.kp ?_ (Kp.refl _ _).drew)); have r5_6 : RRV ww6 s5 b5 A5 n5 c5 s5' b5' A5' n5' c5' xx := (by repeat (first | with_reducible exact r5_5 | with_reducible refine RRV.below ?_ hB6 | with_reducible refine RRV.kp ?_ (Kp.refl _ _).drew)); have HB_6 : Below w.heap.size w ww6 := (by repeat (first | with_reducible exact HB_5 | with_reducible refine bl_then ?_ hB6 | with_reducible refine bl_drew ?_)); have P6 := j2 (cx2 (a1_6)) (cx2 (a2_6))) | (have _hh := HB_4; go_at_call 43; refine (rsimplest_calls _ s3 b3 A3 n3 c3 s3' b3' A3' n3' c3' (-r) s4 b4 A4 n4 c4 s4' b4' A4' n4' c4' (-q) _ (by repeat (first | with_reducible exact r3_4 | with_reducible refine RRV.kp ?_ (Kp.refl _ _).drew)) (by repeat (first | with_reducible exact r4_4 | with_reducible refine RRV.kp ?_ (Kp.refl _ _).drew)) NG0.out.1 NG0.out.2 (szr_neg SR) (szr_neg SQ) (Nat.le_refl _)).mono ?_; rintro e ww5 ⟨⟨xx, hxx, s5, b5, A5, n5, c5, s5', b5', A5', n5', c5', rfl, r5_5⟩, hB5⟩; have HXX := Lib.hid hxx; clear hxx; have a1_5 : ww5.heap[w.heap.size]? = some (.cells #[.int .i64 t, .int .i64 l] 23 (0, 0)) := (by repeat (first | with_reducible exact a1_4 | with_reducible refine blk_below ?_ hB5 | with_reducible refine blk_drew ?_)); have a2_5 : ww5.heap[w.heap.size + 1]? = some (.cells #[.int .i64 t', .int .i64 l'] 23 (0, 0)) := (by repeat (first | with_reducible exact a2_4 | with_reducible refine blk_below ?_ hB5 | with_reducible refine blk_drew ?_)); have a3_5 : ww5.heap[w.heap.size + 1 + 1]? = some (.cells #[.int .i64 0, .int .i64 0] 23 (0, 0)) := (by repeat (first | with_reducible exact a3_4 | with_reducible refine blk_below ?_ hB5 | with_reducible refine blk_drew ?_)); have r2_5 : RRV ww5 s2 b2 A2 n2 c2 s2' b2' A2' n2' c2' r := (by repeat (first | with_reducible exact r2_4 | with_reducible refine RRV.below ?_ hB5 | with_reducible refine RRV.kp ?_ (Kp.refl _ _).drew)); have r3_5 : RRV ww5 s3 b3 A3 n3 c3 s3' b3' A3' n3' c3' (-r) := (by repeat (first | with_reducible exact r3_4 | with_reducible refine RRV.below ?_ hB5 | with_reducible refine RRV.kp ?_ (Kp.refl _ _).drew)); have r1_5 : RRV ww5 s1 b1 A1 n1 c1 s1' b1' A1' n1' c1' q := (by repeat (first | with_reducible exact r1_4 | with_reducible refine RRV.below ?_ hB5 | with_reducible refine RRV.kp ?_ (Kp.refl _ _).drew)); have r4_5 : RRV ww5 s4 b4 A4 n4 c4 s4' b4' A4' n4' c4' (-q) := (by repeat (first | with_reducible exact r4_4 | with_reducible refine RRV.below ?_ hB5 | with_reducible refine RRV.kp ?_ (Kp.refl _ _).drew)); have HB_5 : Below w.heap.size w ww5 := (by repeat (first | with_reducible exact HB_4 | with_reducible refine bl_then ?_ hB5 | with_reducible refine bl_drew ?_)); have P5 := j2 (cx2 (a1_5)) (cx2 (a2_5))) | (have _hh := HB_3; go_at_call 44; refine (rrminus_calls s1 b1 A1 n1 c1 s1' b1' A1' n1' c1' (q) _ (by repeat (first | with_reducible exact r1_3 | with_reducible refine RRV.kp ?_ (Kp.refl _ _).drew))).mono ?_; rintro e ww4 ⟨⟨s4, b4, A4, n4, c4, s4', b4', A4', n4', c4', rfl, r4_4⟩, hB4⟩; have a1_4 : ww4.heap[w.heap.size]? = some (.cells #[.int .i64 t, .int .i64 l] 23 (0, 0)) := (by repeat (first | with_reducible exact a1_3 | with_reducible refine blk_below ?_ hB4 | with_reducible refine blk_drew ?_)); have a2_4 : ww4.heap[w.heap.size + 1]? = some (.cells #[.int .i64 t', .int .i64 l'] 23 (0, 0)) := (by repeat (first | with_reducible exact a2_3 | with_reducible refine blk_below ?_ hB4 | with_reducible refine blk_drew ?_)); have a3_4 : ww4.heap[w.heap.size + 1 + 1]? = some (.cells #[.int .i64 0, .int .i64 0] 23 (0, 0)) := (by repeat (first | with_reducible exact a3_3 | with_reducible refine blk_below ?_ hB4 | with_reducible refine blk_drew ?_)); have r2_4 : RRV ww4 s2 b2 A2 n2 c2 s2' b2' A2' n2' c2' r := (by repeat (first | with_reducible exact r2_3 | with_reducible refine RRV.below ?_ hB4 | with_reducible refine RRV.kp ?_ (Kp.refl _ _).drew)); have r3_4 : RRV ww4 s3 b3 A3 n3 c3 s3' b3' A3' n3' c3' (-r) := (by repeat (first | with_reducible exact r3_3 | with_reducible refine RRV.below ?_ hB4 | with_reducible refine RRV.kp ?_ (Kp.refl _ _).drew)); have r1_4 : RRV ww4 s1 b1 A1 n1 c1 s1' b1' A1' n1' c1' q := (by repeat (first | with_reducible exact r1_3 | with_reducible refine RRV.below ?_ hB4 | with_reducible refine RRV.kp ?_ (Kp.refl _ _).drew)); have HB_4 : Below w.heap.size w ww4 := (by repeat (first | with_reducible exact HB_3 | with_reducible refine bl_then ?_ hB4 | with_reducible refine bl_drew ?_)); have P4 := j2 (cx2 (a1_4)) (cx2 (a2_4))) | (have _hh := HB_2; go_at_call_of 13 (Value.agg #[.int .i64 t, .int .i64 l]); refine (rto_calls t l _ ok1.out).mono ?_; rintro e ww3 ⟨⟨s1, b1, A1, n1, c1, s1', b1', A1', n1', c1', rfl, r1_3⟩, hB3⟩; rw [HQ.out] at r1_3; have a1_3 : ww3.heap[w.heap.size]? = some (.cells #[.int .i64 t, .int .i64 l] 23 (0, 0)) := (by repeat (first | with_reducible exact a1_2 | with_reducible refine blk_below ?_ hB3 | with_reducible refine blk_drew ?_)); have a2_3 : ww3.heap[w.heap.size + 1]? = some (.cells #[.int .i64 t', .int .i64 l'] 23 (0, 0)) := (by repeat (first | with_reducible exact a2_2 | with_reducible refine blk_below ?_ hB3 | with_reducible refine blk_drew ?_)); have a3_3 : ww3.heap[w.heap.size + 1 + 1]? = some (.cells #[.int .i64 0, .int .i64 0] 23 (0, 0)) := (by repeat (first | with_reducible exact a3_2 | with_reducible refine blk_below ?_ hB3 | with_reducible refine blk_drew ?_)); have r2_3 : RRV ww3 s2 b2 A2 n2 c2 s2' b2' A2' n2' c2' r := (by repeat (first | with_reducible exact r2_2 | with_reducible refine RRV.below ?_ hB3 | with_reducible refine RRV.kp ?_ (Kp.refl _ _).drew)); have r3_3 : RRV ww3 s3 b3 A3 n3 c3 s3' b3' A3' n3' c3' (-r) := (by repeat (first | with_reducible exact r3_2 | with_reducible refine RRV.below ?_ hB3 | with_reducible refine RRV.kp ?_ (Kp.refl _ _).drew)); have HB_3 : Below w.heap.size w ww3 := (by repeat (first | with_reducible exact HB_2 | with_reducible refine bl_then ?_ hB3 | with_reducible refine bl_drew ?_)); have P3 := j2 (cx2 (a1_3)) (cx2 (a2_3))) | (have _hh := HB_1; go_at_call 44; refine (rrminus_calls s2 b2 A2 n2 c2 s2' b2' A2' n2' c2' (r) _ (by repeat (first | with_reducible exact r2_1 | with_reducible refine RRV.kp ?_ (Kp.refl _ _).drew))).mono ?_; rintro e ww2 ⟨⟨s3, b3, A3, n3, c3, s3', b3', A3', n3', c3', rfl, r3_2⟩, hB2⟩; have a1_2 : ww2.heap[w.heap.size]? = some (.cells #[.int .i64 t, .int .i64 l] 23 (0, 0)) := (by repeat (first | with_reducible exact a1_1 | with_reducible refine blk_below ?_ hB2 | with_reducible refine blk_drew ?_)); have a2_2 : ww2.heap[w.heap.size + 1]? = some (.cells #[.int .i64 t', .int .i64 l'] 23 (0, 0)) := (by repeat (first | with_reducible exact a2_1 | with_reducible refine blk_below ?_ hB2 | with_reducible refine blk_drew ?_)); have a3_2 : ww2.heap[w.heap.size + 1 + 1]? = some (.cells #[.int .i64 0, .int .i64 0] 23 (0, 0)) := (by repeat (first | with_reducible exact a3_1 | with_reducible refine blk_below ?_ hB2 | with_reducible refine blk_drew ?_)); have r2_2 : RRV ww2 s2 b2 A2 n2 c2 s2' b2' A2' n2' c2' r := (by repeat (first | with_reducible exact r2_1 | with_reducible refine RRV.below ?_ hB2 | with_reducible refine RRV.kp ?_ (Kp.refl _ _).drew)); have HB_2 : Below w.heap.size w ww2 := (by repeat (first | with_reducible exact HB_1 | with_reducible refine bl_then ?_ hB2 | with_reducible refine bl_drew ?_)); have P2 := j2 (cx2 (a1_2)) (cx2 (a2_2))) | (go_at_call_of 13 (Value.agg #[.int .i64 t', .int .i64 l']); refine (rto_calls t' l' _ ok2.out).mono ?_; rintro e ww1 ⟨⟨s2, b2, A2, n2, c2, s2', b2', A2', n2', c2', rfl, r2_1⟩, hB1⟩; rw [HR.out] at r2_1; have a1_1 : ww1.heap[w.heap.size]? = some (.cells #[.int .i64 t, .int .i64 l] 23 (0, 0)) := (by repeat (first | with_reducible exact a1_0 | with_reducible refine blk_below ?_ hB1 | with_reducible refine blk_drew ?_)); have a2_1 : ww1.heap[w.heap.size + 1]? = some (.cells #[.int .i64 t', .int .i64 l'] 23 (0, 0)) := (by repeat (first | with_reducible exact a2_0 | with_reducible refine blk_below ?_ hB1 | with_reducible refine blk_drew ?_)); have a3_1 : ww1.heap[w.heap.size + 1 + 1]? = some (.cells #[.int .i64 0, .int .i64 0] 23 (0, 0)) := (by repeat (first | with_reducible exact a3_0 | with_reducible refine blk_below ?_ hB1 | with_reducible refine blk_drew ?_)); have HB_1 : Below w.heap.size w ww1 := (by repeat (first | with_reducible exact HB_0 | with_reducible refine bl_then ?_ hB1 | with_reducible refine bl_drew ?_)); have P1 := j2 (cx2 (a1_1)) (cx2 (a2_1))) | fail)
            all_goals
              go_wp2
              refine bodyPost_ret (results_cell_tmp_row rfl _ _ (w.heap.size + 1 + 1) 23 #[.int .i64 oT, .int .i64 oL] (0, 0) _ _ rfl (by exact blk_set2 a3_7 _ _) Try.underlying23 rfl (by kernel_rfl) rfl) rfl ?_
              exact ⟨⟨_, _, _, rfl, by rw [← HQ.out, ← HR.out] at hx HXX; exact .inr ⟨okk.out, .inr ⟨hx.out, .inr (.inl ⟨by omega, xx, HXX.out, HT.out.symm, HL.out.symm, HE.out.symm⟩)⟩⟩⟩, bl_set (bl_set HB_7 (by show w.heap.size ≤ w.heap.size + 1 + 1; omega) _) (by show w.heap.size ≤ w.heap.size + 1 + 1; omega) _⟩
        · have ht0 : 0 < t := by omega
          have a1_0 := a1
          have a2_0 := a2
          have a3_0 := a3
          have HB_0 := B0
          obtain ⟨p1, p2, p3, p4⟩ := bx2 a1
          obtain ⟨q1, q2, q3, q4⟩ := bx2 a2
          go_upto_region 8 with (fail)
          go_region_held3 (fun W => W.cell? ⟨w.heap.size, 0, none⟩ = some (Value.int .i64 t) ∧ W.cell? ⟨w.heap.size, 1, none⟩ = some (Value.int .i64 l) ∧ W.cell? ⟨w.heap.size + 1, 0, none⟩ = some (Value.int .i64 t') ∧ W.cell? ⟨w.heap.size + 1, 1, none⟩ = some (Value.int .i64 l')) (first | with_reducible exact P4 | with_reducible exact P3 | with_reducible exact P2 | with_reducible exact P1 | with_reducible exact (j2 (cx2 (blk_drew a1_0)) (cx2 (blk_drew a2_0))) | with_reducible exact (j2 (cx2 (blk_farN (a1_4) N13.out _ _)) (cx2 (blk_farN (a2_4) N23.out _ _))) | go_keep) (first | (have _hh := HB_3; go_at_call 42; refine (rnum_calls s9 b9 A9 n9 c9 s9' b9' A9' n9' c9' (xx) _ (by repeat (first | with_reducible exact r9_3 | with_reducible refine RRV.kp ?_ (Kp.refl _ _).drew))).mono ?_; rintro e ww4 ⟨hen, hB4⟩; unfold NumR at hen; generalize hT : outT (xx) = oT at *; have HT := Lib.hid hT; clear hT; generalize hL : outL (xx) = oL at *; have HL := Lib.hid hL; clear hL; generalize hE : outE (xx) = oE at *; have HE := Lib.hid hE; clear hE; subst hen; have a1_4 : ww4.heap[w.heap.size]? = some (.cells #[.int .i64 t, .int .i64 l] 23 (0, 0)) := (by repeat (first | with_reducible exact a1_3 | with_reducible refine blk_below ?_ hB4 | with_reducible refine blk_drew ?_)); have a2_4 : ww4.heap[w.heap.size + 1]? = some (.cells #[.int .i64 t', .int .i64 l'] 23 (0, 0)) := (by repeat (first | with_reducible exact a2_3 | with_reducible refine blk_below ?_ hB4 | with_reducible refine blk_drew ?_)); have a3_4 : ww4.heap[w.heap.size + 1 + 1]? = some (.cells #[.int .i64 0, .int .i64 0] 23 (0, 0)) := (by repeat (first | with_reducible exact a3_3 | with_reducible refine blk_below ?_ hB4 | with_reducible refine blk_drew ?_)); have r1_4 : RRV ww4 s1 b1 A1 n1 c1 s1' b1' A1' n1' c1' q := (by repeat (first | with_reducible exact r1_3 | with_reducible refine RRV.below ?_ hB4 | with_reducible refine RRV.kp ?_ (Kp.refl _ _).drew)); have r2_4 : RRV ww4 s2 b2 A2 n2 c2 s2' b2' A2' n2' c2' r := (by repeat (first | with_reducible exact r2_3 | with_reducible refine RRV.below ?_ hB4 | with_reducible refine RRV.kp ?_ (Kp.refl _ _).drew)); have r9_4 : RRV ww4 s9 b9 A9 n9 c9 s9' b9' A9' n9' c9' xx := (by repeat (first | with_reducible exact r9_3 | with_reducible refine RRV.below ?_ hB4 | with_reducible refine RRV.kp ?_ (Kp.refl _ _).drew)); have HB_4 : Below w.heap.size w ww4 := (by repeat (first | with_reducible exact HB_3 | with_reducible refine bl_then ?_ hB4 | with_reducible refine bl_drew ?_)); have P4 := j2 (cx2 (a1_4)) (cx2 (a2_4)); obtain ⟨z1, z2, z3, z4⟩ := bx2 a3_4) | (have _hh := HB_2; go_at_call 43; refine (rsimplest_calls _ s1 b1 A1 n1 c1 s1' b1' A1' n1' c1' q s2 b2 A2 n2 c2 s2' b2' A2' n2' c2' r _ (by repeat (first | with_reducible exact r1_2 | with_reducible refine RRV.kp ?_ (Kp.refl _ _).drew)) (by repeat (first | with_reducible exact r2_2 | with_reducible refine RRV.kp ?_ (Kp.refl _ _).drew)) (by rw [NQ.out]; omega) hx.out SQ SR (Nat.le_refl _)).mono ?_; rintro e ww3 ⟨⟨xx, hxx, s9, b9, A9, n9, c9, s9', b9', A9', n9', c9', rfl, r9_3⟩, hB3⟩; have HXX := Lib.hid hxx; clear hxx; have a1_3 : ww3.heap[w.heap.size]? = some (.cells #[.int .i64 t, .int .i64 l] 23 (0, 0)) := (by repeat (first | with_reducible exact a1_2 | with_reducible refine blk_below ?_ hB3 | with_reducible refine blk_drew ?_)); have a2_3 : ww3.heap[w.heap.size + 1]? = some (.cells #[.int .i64 t', .int .i64 l'] 23 (0, 0)) := (by repeat (first | with_reducible exact a2_2 | with_reducible refine blk_below ?_ hB3 | with_reducible refine blk_drew ?_)); have a3_3 : ww3.heap[w.heap.size + 1 + 1]? = some (.cells #[.int .i64 0, .int .i64 0] 23 (0, 0)) := (by repeat (first | with_reducible exact a3_2 | with_reducible refine blk_below ?_ hB3 | with_reducible refine blk_drew ?_)); have r1_3 : RRV ww3 s1 b1 A1 n1 c1 s1' b1' A1' n1' c1' q := (by repeat (first | with_reducible exact r1_2 | with_reducible refine RRV.below ?_ hB3 | with_reducible refine RRV.kp ?_ (Kp.refl _ _).drew)); have r2_3 : RRV ww3 s2 b2 A2 n2 c2 s2' b2' A2' n2' c2' r := (by repeat (first | with_reducible exact r2_2 | with_reducible refine RRV.below ?_ hB3 | with_reducible refine RRV.kp ?_ (Kp.refl _ _).drew)); have HB_3 : Below w.heap.size w ww3 := (by repeat (first | with_reducible exact HB_2 | with_reducible refine bl_then ?_ hB3 | with_reducible refine bl_drew ?_)); have P3 := j2 (cx2 (a1_3)) (cx2 (a2_3))) | (have _hh := HB_1; go_at_call_of 13 (Value.agg #[.int .i64 t', .int .i64 l']); refine (rto_calls t' l' _ ok2.out).mono ?_; rintro e ww2 ⟨⟨s2, b2, A2, n2, c2, s2', b2', A2', n2', c2', rfl, r2_2⟩, hB2⟩; rw [HR.out] at r2_2; have a1_2 : ww2.heap[w.heap.size]? = some (.cells #[.int .i64 t, .int .i64 l] 23 (0, 0)) := (by repeat (first | with_reducible exact a1_1 | with_reducible refine blk_below ?_ hB2 | with_reducible refine blk_drew ?_)); have a2_2 : ww2.heap[w.heap.size + 1]? = some (.cells #[.int .i64 t', .int .i64 l'] 23 (0, 0)) := (by repeat (first | with_reducible exact a2_1 | with_reducible refine blk_below ?_ hB2 | with_reducible refine blk_drew ?_)); have a3_2 : ww2.heap[w.heap.size + 1 + 1]? = some (.cells #[.int .i64 0, .int .i64 0] 23 (0, 0)) := (by repeat (first | with_reducible exact a3_1 | with_reducible refine blk_below ?_ hB2 | with_reducible refine blk_drew ?_)); have r1_2 : RRV ww2 s1 b1 A1 n1 c1 s1' b1' A1' n1' c1' q := (by repeat (first | with_reducible exact r1_1 | with_reducible refine RRV.below ?_ hB2 | with_reducible refine RRV.kp ?_ (Kp.refl _ _).drew)); have HB_2 : Below w.heap.size w ww2 := (by repeat (first | with_reducible exact HB_1 | with_reducible refine bl_then ?_ hB2 | with_reducible refine bl_drew ?_)); have P2 := j2 (cx2 (a1_2)) (cx2 (a2_2))) | (go_at_call_of 13 (Value.agg #[.int .i64 t, .int .i64 l]); refine (rto_calls t l _ ok1.out).mono ?_; rintro e ww1 ⟨⟨s1, b1, A1, n1, c1, s1', b1', A1', n1', c1', rfl, r1_1⟩, hB1⟩; rw [HQ.out] at r1_1; have a1_1 : ww1.heap[w.heap.size]? = some (.cells #[.int .i64 t, .int .i64 l] 23 (0, 0)) := (by repeat (first | with_reducible exact a1_0 | with_reducible refine blk_below ?_ hB1 | with_reducible refine blk_drew ?_)); have a2_1 : ww1.heap[w.heap.size + 1]? = some (.cells #[.int .i64 t', .int .i64 l'] 23 (0, 0)) := (by repeat (first | with_reducible exact a2_0 | with_reducible refine blk_below ?_ hB1 | with_reducible refine blk_drew ?_)); have a3_1 : ww1.heap[w.heap.size + 1 + 1]? = some (.cells #[.int .i64 0, .int .i64 0] 23 (0, 0)) := (by repeat (first | with_reducible exact a3_0 | with_reducible refine blk_below ?_ hB1 | with_reducible refine blk_drew ?_)); have HB_1 : Below w.heap.size w ww1 := (by repeat (first | with_reducible exact HB_0 | with_reducible refine bl_then ?_ hB1 | with_reducible refine bl_drew ?_)); have P1 := j2 (cx2 (a1_1)) (cx2 (a2_1))) | fail)
          all_goals
            go_wp2
            refine bodyPost_ret (results_cell_tmp_row rfl _ _ (w.heap.size + 1 + 1) 23 #[.int .i64 oT, .int .i64 oL] (0, 0) _ _ rfl (by exact blk_set2 a3_4 _ _) Try.underlying23 rfl (by kernel_rfl) rfl) rfl ?_
            exact ⟨⟨_, _, _, rfl, by rw [← HQ.out, ← HR.out] at hx HXX; exact .inr ⟨okk.out, .inr ⟨hx.out, .inr (.inr ⟨by omega, xx, HXX.out, HT.out.symm, HL.out.symm, HE.out.symm⟩)⟩⟩⟩, bl_set (bl_set HB_4 (by show w.heap.size ≤ w.heap.size + 1 + 1; omega) _) (by show w.heap.size ≤ w.heap.size + 1 + 1; omega) _⟩
      · have hsl : 0 < sg := by
          rcases Int.lt_or_le 0 sg with h | h
          · exact h
          · exact absurd (HSL.out.1 h) hx
        rw [show decide (0 < sg) = true by simp; omega]
        replace hx := Lib.hid hx
        obtain ⟨z1, z2, z3, z4⟩ := bx2 a3
        go_wp2
        refine bodyPost_ret (results_cell_tmp_row rfl _ _ (w.heap.size + 1 + 1) 23 #[.int .i64 0, .int .i64 0] (0, 0) _ _ rfl (by first | exact a3 | exact blk_set2 a3 _ _) Try.underlying23 rfl (by kernel_rfl) rfl) rfl ?_
        exact ⟨⟨_, _, _, rfl, by rw [← HQ.out, ← HR.out] at hx; exact .inr ⟨okk.out, .inl ⟨hx.out, rfl, rfl, rfl⟩⟩⟩, by first | exact B0 | exact bl_set (bl_set B0 (by show w.heap.size ≤ w.heap.size + 1 + 1; omega) _) (by show w.heap.size ≤ w.heap.size + 1 + 1; omega) _⟩
  · have okk := Lib.hid hok
    have DEC : Hid (decide (OkNs [(t, l), (t', l')]) = false) := Lib.hid (decide_eq_false (fun h => hok ((OkNs.two _ _ _ _).1 h)))
    have I64P : Hid (I64s [(t, l), (t', l')]) := Lib.hid (by intro x hx; simp at hx; rcases hx with rfl | rfl; exact ⟨⟨h0, h1⟩, h2, h3⟩; exact ⟨⟨h0', h1'⟩, h2', h3'⟩)
    clear hok
    go_enter Try.func10, Try.ntmps10
    go_wp2_with fail
    have B0 := bl_alloc (bl_alloc (bl_alloc (bl_alloc (Below.refl w.heap.size w) (.cells #[.int .i64 t, .int .i64 l] 23)) (.cells #[.int .i64 t', .int .i64 l'] 23)) (.cells #[.int .i64 0, .int .i64 0] 23)) (.cells #[.int .i64 t, .int .i64 l, .int .i64 t', .int .i64 l'] 23)
    have a1 : ((((w.alloc (.cells #[.int .i64 t, .int .i64 l] 23)).alloc (.cells #[.int .i64 t', .int .i64 l'] 23)).alloc (.cells #[.int .i64 0, .int .i64 0] 23)).alloc (.cells #[.int .i64 t, .int .i64 l, .int .i64 t', .int .i64 l'] 23)).heap[w.heap.size]? = some (.cells #[.int .i64 t, .int .i64 l] 23 (0, 0)) := blk_alloc (blk_alloc (blk_alloc (blk_at _ rfl) _) _) _
    have a2 : ((((w.alloc (.cells #[.int .i64 t, .int .i64 l] 23)).alloc (.cells #[.int .i64 t', .int .i64 l'] 23)).alloc (.cells #[.int .i64 0, .int .i64 0] 23)).alloc (.cells #[.int .i64 t, .int .i64 l, .int .i64 t', .int .i64 l'] 23)).heap[w.heap.size + 1]? = some (.cells #[.int .i64 t', .int .i64 l'] 23 (0, 0)) := blk_alloc (blk_alloc (blk_at _ (by simp)) _) _
    have a3 : ((((w.alloc (.cells #[.int .i64 t, .int .i64 l] 23)).alloc (.cells #[.int .i64 t', .int .i64 l'] 23)).alloc (.cells #[.int .i64 0, .int .i64 0] 23)).alloc (.cells #[.int .i64 t, .int .i64 l, .int .i64 t', .int .i64 l'] 23)).heap[w.heap.size + 1 + 1]? = some (.cells #[.int .i64 0, .int .i64 0] 23 (0, 0)) := blk_alloc (blk_at _ (by simp)) _
    have a4 : ((((w.alloc (.cells #[.int .i64 t, .int .i64 l] 23)).alloc (.cells #[.int .i64 t', .int .i64 l'] 23)).alloc (.cells #[.int .i64 0, .int .i64 0] 23)).alloc (.cells #[.int .i64 t, .int .i64 l, .int .i64 t', .int .i64 l'] 23)).heap[w.heap.size + 1 + 1 + 1]? = some (.cells #[.int .i64 t, .int .i64 l, .int .i64 t', .int .i64 l'] 23 (0, 0)) := blk_at _ (by simp)
    generalize (((w.alloc (.cells #[.int .i64 t, .int .i64 l] 23)).alloc (.cells #[.int .i64 t', .int .i64 l'] 23)).alloc (.cells #[.int .i64 0, .int .i64 0] 23)).alloc (.cells #[.int .i64 t, .int .i64 l, .int .i64 t', .int .i64 l'] 23) = W0 at *
    refine (rall_calls _ 2 2 [(t, l), (t', l')] _ (RdN.two a4) I64P.out).mono ?_
    rintro e w1 ⟨he, hB1⟩
    rw [DEC.out] at he
    subst he
    replace a1 := blk_below a1 hB1
    replace a2 := blk_below a2 hB1
    replace a3 := blk_below a3 hB1
    replace B0 := bl_then B0 hB1
    clear hB1 a4
    obtain ⟨z1, z2, z3, z4⟩ := bx2 a3
    go_wp2
    refine bodyPost_ret (results_cell_tmp_row rfl _ _ (w.heap.size + 1 + 1) 23 #[.int .i64 0, .int .i64 0] (0, 0) _ _ rfl (by first | exact a3 | exact blk_set2 a3 _ _) Try.underlying23 rfl (by kernel_rfl) rfl) rfl ?_
    exact ⟨⟨_, _, _, rfl, .inl ⟨okk.out, rfl, rfl, rfl⟩⟩, by first | exact B0 | exact bl_set (bl_set B0 (by show w.heap.size ≤ w.heap.size + 1 + 1; omega) _) (by show w.heap.size ≤ w.heap.size + 1 + 1; omega) _⟩
end Go.Proofs.Ytijdnlkojflnkaa
