/- reference: Times. -/
import Derived.Test.YtloplmmnmehkmaaGreatRef5
import Derived.Test.YtloplmmnmehkmaaGreatRef3
import Derived.Test.YtloplmmnmehkmaaGreatInt8
set_option linter.unusedVariables false
set_option linter.unusedSimpArgs false
namespace Go.Proofs.YtloplmmnmehkmaaGreat
open Go.RowKit

theorem small_mul {a b : Int} (h1 : -1073741824 < a ∧ a < 1073741824) (h2 : -1073741824 < b ∧ b < 1073741824) : -1152921504606846976 < a * b ∧ a * b < 1152921504606846976 := by
  have : (a * b).natAbs < 1152921504606846976 := by
    rw [Int.natAbs_mul]
    have h3 : a.natAbs ≤ 1073741823 := by omega
    have h4 : b.natAbs ≤ 1073741823 := by omega
    have := Nat.mul_le_mul h3 h4
    omega
  omega
theorem rprod {x y X Y V : Int} (hX : X = (x.natAbs : Int)) (hY : Y = (y.natAbs : Int)) (hV : V = X * Y) :
    (if (x.sign != y.sign) = true then -V else V) = x * y := by
  subst hX hY hV
  have h1 := Int.sign_mul_natAbs x
  have h2 := Int.sign_mul_natAbs y
  rcases Int.lt_trichotomy x 0 with h | h | h <;> rcases Int.lt_trichotomy y 0 with k | k | k
  all_goals first
    | (subst h; simp; done)
    | (subst k; simp; done)
    | skip
  · rw [Int.sign_eq_neg_one_of_neg h, Int.sign_eq_neg_one_of_neg k] at *
    rw [← h1, ← h2]; simp; try grind
  · rw [Int.sign_eq_neg_one_of_neg h, Int.sign_eq_one_of_pos k] at *
    rw [← h1, ← h2]; simp; try grind
  · rw [Int.sign_eq_one_of_pos h, Int.sign_eq_neg_one_of_neg k] at *
    rw [← h1, ← h2]; simp; try grind
  · rw [Int.sign_eq_one_of_pos h, Int.sign_eq_one_of_pos k] at *
    rw [← h1, ← h2]; simp; try grind

set_option maxHeartbeats 8000000 in
set_option maxRecDepth 100000 in
theorem rtimes_calls (s1 : Int) (b1 : Bool) (A1 : Option Addr) (n1 c1 : Nat) (x : Int) (s2 : Int) (b2 : Bool) (A2 : Option Addr) (n2 c2 : Nat) (y : Int) (w : World) (h1 : RV w s1 b1 A1 n1 c1 x) (h2 : RV w s2 b2 A2 n2 c2 y) (k : Nat) (z1 : Sz k x) (z2 : Sz k y) (hk : k ≤ 20000000000) :
    Calls Tryz.prog 78 #[.agg #[.int .i64 s1, .bool b1, .slice A1 n1 c1], .agg #[.int .i64 s2, .bool b2, .slice A2 n2 c2]] w fun e w' => RIntR e w' (x * y) ∧ Below w.heap.size w w' := by
  have hbd1 := h1.bound
  have hbd2 := h2.bound
  go_enter Tryz.func78, Tryz.ntmps78
  go_upto_region 1 with (fail)
  have B3 := bl_alloc (bl_alloc (bl_alloc (Below.refl w.heap.size w) (.cells #[.int .i64 s1, .bool b1, .slice A1 n1 c1] 49)) (.cells #[.int .i64 s2, .bool b2, .slice A2 n2 c2] 49)) (.cells #[.int .i64 0, .bool false, .slice none 0 0] 49)
  have a1 : (((w.alloc (.cells #[.int .i64 s1, .bool b1, .slice A1 n1 c1] 49)).alloc (.cells #[.int .i64 s2, .bool b2, .slice A2 n2 c2] 49)).alloc (.cells #[.int .i64 0, .bool false, .slice none 0 0] 49)).heap[w.heap.size]? = some (.cells #[.int .i64 s1, .bool b1, .slice A1 n1 c1] 49 (0, 0)) := blk_alloc (blk_alloc (blk_at _ rfl) _) _
  have a2 : (((w.alloc (.cells #[.int .i64 s1, .bool b1, .slice A1 n1 c1] 49)).alloc (.cells #[.int .i64 s2, .bool b2, .slice A2 n2 c2] 49)).alloc (.cells #[.int .i64 0, .bool false, .slice none 0 0] 49)).heap[w.heap.size + 1]? = some (.cells #[.int .i64 s2, .bool b2, .slice A2 n2 c2] 49 (0, 0)) := blk_alloc (blk_at _ (by simp)) _
  have a3 : (((w.alloc (.cells #[.int .i64 s1, .bool b1, .slice A1 n1 c1] 49)).alloc (.cells #[.int .i64 s2, .bool b2, .slice A2 n2 c2] 49)).alloc (.cells #[.int .i64 0, .bool false, .slice none 0 0] 49)).heap[w.heap.size + 1 + 1]? = some (.cells #[.int .i64 0, .bool false, .slice none 0 0] 49 (0, 0)) := blk_at _ (by simp)
  replace h1 := h1.below B3
  replace h2 := h2.below B3
  generalize ((w.alloc (.cells #[.int .i64 s1, .bool b1, .slice A1 n1 c1] 49)).alloc (.cells #[.int .i64 s2, .bool b2, .slice A2 n2 c2] 49)).alloc (.cells #[.int .i64 0, .bool false, .slice none 0 0] 49) = W3 at *
  obtain ⟨⟨p1, p2, p3⟩, p4, p5, p6⟩ := bx3 a1
  obtain ⟨⟨q1, q2, q3⟩, q4, q5, q6⟩ := bx3 a2
  go_cut [40] (fun t wc => ∃ b : Bool, t = .bool b ∧ Hid (b = true → n1 = 0 ∧ n2 = 0 ∧ (-1073741824 < s1 ∧ s1 < 1073741824) ∧ (-1073741824 < s2 ∧ s2 < 1073741824)) ∧ wc = W3)
  case first =>
    by_cases e1 : n1 = 0
    · subst e1
      by_cases e2 : n2 = 0
      · subst e2
        rcases (show s1 ≤ -1073741824 ∨ -1073741824 < s1 ∧ 1073741824 ≤ s1 ∨ (-1073741824 < s1 ∧ s1 < 1073741824) by omega) with e3 | e3 | e3
        · go_wp2
          go_meet
          case rel => exact ⟨_, rfl, fun h => by first | (simp at h; omega) | simp at h, rfl⟩
        · obtain ⟨e3, e4⟩ := e3
          go_wp2
          go_meet
          case rel => exact ⟨_, rfl, fun h => by first | (simp at h; omega) | simp at h, rfl⟩
        · obtain ⟨e3, e3'⟩ := e3
          rcases (show s2 ≤ -1073741824 ∨ -1073741824 < s2 ∧ 1073741824 ≤ s2 ∨ (-1073741824 < s2 ∧ s2 < 1073741824) by omega) with e4 | e4 | e4
          · go_wp2
            go_meet
            case rel => exact ⟨_, rfl, fun h => by first | (simp at h; omega) | simp at h, rfl⟩
          · obtain ⟨e4, e5⟩ := e4
            go_wp2
            go_meet
            case rel => exact ⟨_, rfl, fun h => by first | (simp at h; omega) | simp at h, rfl⟩
          · obtain ⟨e4, e4'⟩ := e4
            go_wp2
            go_meet
            case rel => exact ⟨_, rfl, fun _ => by refine ⟨?_, ?_, ?_, ?_⟩ <;> first | trivial | omega, rfl⟩
      · have q : ((n2 : Int) == 0) = false := by simp; omega
        go_wp2
        go_meet
        case rel => exact ⟨_, rfl, fun h => by first | (simp at h; omega) | simp at h, rfl⟩
    · have q : ((n1 : Int) == 0) = false := by simp; omega
      go_wp2
      go_meet
      case rel => exact ⟨_, rfl, fun h => by first | (simp at h; omega) | simp at h, rfl⟩
  case rest =>
    obtain ⟨b, rfl, hb, rfl⟩ := hcut
    cases b
    · clear hb
      go_upto_region 3 with (fail)
      go_region_held3 (fun W => W.cell? ⟨w.heap.size, 0, none⟩ = some (.int .i64 s1) ∧ W.cell? ⟨w.heap.size, 1, none⟩ = some (.bool b1) ∧ W.cell? ⟨w.heap.size, 2, none⟩ = some (.slice A1 n1 c1) ∧ W.cell? ⟨w.heap.size + 1, 0, none⟩ = some (.int .i64 s2) ∧ W.cell? ⟨w.heap.size + 1, 1, none⟩ = some (.bool b2) ∧ W.cell? ⟨w.heap.size + 1, 2, none⟩ = some (.slice A2 n2 c2)) (first | with_reducible exact keep6 hB2 (by assumption) | with_reducible exact keep6 hB1 (by assumption) | exact ⟨p1, p2, p3, q1, q2, q3⟩ | go_keep) (first | (have _hh := hD_1; go_at_call_of 126 (Value.agg #[.int .i64 s2, .bool b2, .slice A2 n2 c2]); refine (rlist_calls s2 b2 A2 n2 c2 y _ h2_1).mono ?_; rintro e w2 ⟨Y2, m2, d2, rfl, hd2, ys, hE2, hk2, ht2, hv2, hB2⟩) | (go_at_call_of 126 (Value.agg #[.int .i64 s1, .bool b1, .slice A1 n1 c1]); refine (rlist_calls s1 b1 A1 n1 c1 x _ (by first | exact h1 | exact h1.kp (Kp.refl _ _).drew)).mono ?_; rintro e w1 ⟨Y1, m1, d1, rfl, hd1, xs, hD_1, hk1, ht1, hv1, hB1⟩; have h2_1 := (h2.kp (Kp.refl _ _).drew).below hB1))
      have l1 := rlen_of_sz hk1 ht1 hv1 z1 (by omega)
      have l2 := rlen_of_sz hk2 ht2 hv2 z2 (by omega)
      rw [hD_1.1] at l1
      rw [hE2.1] at l2
      replace h1 := ((h1.kp (Kp.refl _ _).drew).below hB1).below hB2
      replace h2 := h2_1.below hB2
      replace a1 := blk_below (blk_below (blk_drew a1) hB1) hB2
      replace a2 := blk_below (blk_below (blk_drew a2) hB1) hB2
      replace a3 := blk_below (blk_below (blk_drew a3) hB1) hB2
      replace B3 := bl_then (bl_then (bl_drew B3) hB1) hB2
      have hr1 := hD_1.below hB2
      have hr2 := hE2
      clear hB1 hB2 h2_1 _hh hD_1 hE2 p1 p2 p3 p4 p5 p6 q1 q2 q3 q4 q5 q6
      have VX := Lib.hid hv1
      have VY := Lib.hid hv2
      clear hv1 hv2 ht1 ht2
      have HK1 := Lib.hid hk1
      have HK2 := Lib.hid hk2
      clear hk1 hk2
      have L1 := Lib.hid hr1.1
      have L2 := Lib.hid hr2.1
      have HI := Lib.hid info_int
      have B0 := Below.refl w2.heap.size w2
      go_wp2_with (first | (at_make; refine make_num w2.heap.size rfl _ _ 42 3 .i64 8 rfl Tryz.underlying42 HI.out _ _ _ _ (m1 + m2) rfl rfl (by simp) (by simp) (by omega) (by omega) B0 (Nat.le_refl _) ?_; intro w3 hown HB3) | go_in)
      clear B0
      have hst := MulO.start (B := 1073741824) (by omega) xs ys
      rw [L1.out, L2.out] at hst
      go_loopw [59] (fun i wr => ∃ (j : Nat) (out : List Int), j ≤ m1 ∧ i = .int .i64 j ∧ MulO 1073741824 xs ys j out ∧ wr.ownsRow w2.heap.size 3 1 (.slice (some ⟨w2.heap.size, 0, none⟩) (m1 + m2) (m1 + m2)) (m1 + m2) (ints .i64 out) ∧ Below w2.heap.size w2 wr) (fun i _ => m1 - (intOf i).toNat)
      case atStart => exact ⟨0, _, Nat.zero_le _, rfl, hst, hown, HB3⟩
      case round =>
        clear hst hown HB3
        obtain ⟨j, out, hj, rfl, hO, ho, hB⟩ := hrel
        by_cases hlt : j < m1
        · obtain ⟨ga, oa, rfl, la, ca⟩ := hr1.at_ (by omega)
          have ca1 := ca j hlt
          clear ca
          have da := HK1.out.at j (by omega)
          have hI0 := hO.enter (by omega)
          clear hO
          generalize ep : xs.getD j 0 = pd at *
          have EP := Lib.hid ep
          clear ep
          go_wp2_with fail
          go_loopw [9, 64] (fun c kk wr => ∃ (q : Nat) (out : List Int) (cy : Int), q ≤ m2 ∧ kk = .int .i64 q ∧ c = .int .i64 cy ∧ MulI 1073741824 xs ys j q out cy ∧ wr.ownsRow w2.heap.size 3 1 (.slice (some ⟨w2.heap.size, 0, none⟩) (m1 + m2) (m1 + m2)) (m1 + m2) (ints .i64 out) ∧ Below w2.heap.size w2 wr) (fun _ kk _ => m2 - (intOf kk).toNat)
          case atStart => exact ⟨0, out, 0, Nat.zero_le _, rfl, rfl, hI0, ho, hB⟩
          case round =>
            clear hI0 ho hB
            obtain ⟨q, out, cy, hq, rfl, rfl, hI, ho, hB⟩ := hrel
            have ca2 : wr.cell? ⟨ga, oa + j, none⟩ = some (.int .i64 pd) := (hB.cell (p := ⟨ga, oa + j, none⟩) la).trans ca1
            clear ca1
            have c0 := hI.c0
            have c1 := hI.c1
            by_cases hlt2 : q < m2
            · obtain ⟨gb, ob, rfl, lb, cb⟩ := hr2.at_ (by omega)
              have cb1 : wr.cell? ⟨gb, ob + q, none⟩ = some (.int .i64 (ys.getD q 0)) := (hB.cell (p := ⟨gb, ob + q, none⟩) lb).trans (cb q hlt2)
              clear cb
              have db := HK2.out.at q (by omega)
              have dd := hI.dig.at (j + q) (by omega)
              obtain ⟨o1, o2⟩ := own_at ho (j + q) (by omega)
              have hS := hI.step (by omega) HK1.out HK2.out (by rw [L1.out]; exact hlt) (by rw [L2.out]; exact hlt2)
              rw [EP.out] at hS
              generalize ys.getD q 0 = qd at *
              generalize out.getD (j + q) 0 = od at *
              have pb := rmul_bounds da.1 da.2 db.1 db.2
              generalize epr : pd * qd = pr at *
              rw [Int.add_comm pr od] at hS
              obtain ⟨so, sb⟩ := own_set ho hB (Nat.le_refl _) (j + q) ((cy + (od + pr)) % 1073741824)
              go_wp2_with fail
              go_region
              all_goals
                go_wp2_with fail
                go_roundw
                case rel => exact ⟨q + 1, _, _, by omega, by go_num, by first | rfl | go_num, hS, by first | exact so | exact so.drew, by first | exact sb | exact bl_drew sb⟩
                case measure => simp [intOf]; omega
            · have hq2 : q = m2 := by omega
              subst hq2
              rw [← L2.out] at hI
              have hL := hI.leave (by omega) (by rw [L1.out]; exact hlt)
              rw [L2.out] at hL
              clear hI
              obtain ⟨o1, o2⟩ := own_at ho (j + q) (by omega)
              obtain ⟨so, sb⟩ := own_set ho hB (Nat.le_refl _) (j + q) cy
              go_wp2_with fail
              go_roundw
              case rel => exact ⟨j + 1, _, by omega, by go_num, hL, so, sb⟩
              case measure => simp [intOf]; omega
        · have hj2 : j = m1 := by omega
          subst hj2
          have hX := hO
          rw [← L1.out] at hX
          have hP := Lib.hid hX.stop
          clear hX
          have HQ := Lib.hid (rprod VX.out VY.out hP.out)
          obtain ⟨Ao, co, eo, hco, hro, _⟩ := RdI.own ho
          simp only [Value.slice.injEq] at eo
          obtain ⟨rfl, _, rfl⟩ := eo
          have hdg := hO.dig
          replace h1 := h1.below hB
          replace h2 := h2.below hB
          replace a1 := blk_below a1 hB
          replace a2 := blk_below a2 hB
          replace a3 := blk_below a3 hB
          replace B3 := bl_then B3 hB
          clear hO ho hB
          obtain ⟨⟨p1, p2, p3⟩, p4, p5, p6⟩ := bx3 a1
          obtain ⟨⟨q1, q2, q3⟩, q4, q5, q6⟩ := bx3 a2
          go_upto_region 18 with (fail)
          go_region_held3 (fun W => W.cell? ⟨w.heap.size, 0, none⟩ = some (.int .i64 s1) ∧ W.cell? ⟨w.heap.size, 1, none⟩ = some (.bool b1) ∧ W.cell? ⟨w.heap.size, 2, none⟩ = some (.slice A1 n1 c1) ∧ W.cell? ⟨w.heap.size + 1, 0, none⟩ = some (.int .i64 s2) ∧ W.cell? ⟨w.heap.size + 1, 1, none⟩ = some (.bool b2) ∧ W.cell? ⟨w.heap.size + 1, 2, none⟩ = some (.slice A2 n2 c2)) (first | with_reducible exact keep6 hB3 (by assumption) | with_reducible exact keep6 hB2 (by assumption) | with_reducible exact keep6 hB1 (by assumption) | with_reducible exact keep6_set3 (by assumption) (by omega) (by omega) | exact ⟨p1, p2, p3, q1, q2, q3⟩ | go_keep) (first | (have _hh := hr_2; go_at_call 127; refine (rmade_calls _ _ _ _ out _ hr_2 hdg (Nat.le_refl _)).mono ?_; rintro e w6 ⟨⟨s, b, A, n, c, rfl, hI⟩, hB3⟩; have a3_3 := blk_below a3_2 hB3; have B3_3 := bl_then B3_2 hB3; rw [HQ.out] at hI; have hE := Lib.hid (putR hI a3_3 B3_3 (by omega)); obtain ⟨⟨t1, t2, t3⟩, t4, t5, t6⟩ := bx3 a3_3) | (have _hh := h2_1; go_at_call_of 80 (Value.agg #[.int .i64 s2, .bool b2, .slice A2 n2 c2]); refine (rsign_int_calls s2 b2 A2 n2 c2 y _ h2_1).mono ?_; rintro e w5 ⟨rfl, hB2⟩; have hr_2 := hr_1.below hB2; have a3_2 := blk_below a3_1 hB2; have B3_2 := bl_then B3_1 hB2) | (go_at_call_of 80 (Value.agg #[.int .i64 s1, .bool b1, .slice A1 n1 c1]); refine (rsign_int_calls s1 b1 A1 n1 c1 x _ (h1.kp (Kp.refl _ _).drew)).mono ?_; rintro e w4 ⟨rfl, hB1⟩; have h2_1 := (h2.kp (Kp.refl _ _).drew).below hB1; have hr_1 := (hro.kp (Kp.refl _ _).drew).below hB1; have a3_1 := blk_below (blk_drew a3) hB1; have B3_1 := bl_then (bl_drew B3) hB1) | fail)
          all_goals
            go_wp2
            refine bodyPost_ret (results_cell_row rfl _ _ (w.heap.size + 1 + 1) 49 #[.int .i64 s, .bool b, .slice A n c] (0, 0) _ rfl hE.out.2.2 Tryz.underlying49 rfl (by kernel_rfl)) rfl ?_
            exact ⟨⟨_, _, _, _, _, rfl, hE.out.1⟩, hE.out.2.1⟩
    · obtain ⟨e1, e2, e3, e4⟩ := hb.out rfl
      clear hb
      subst e1 e2
      obtain ⟨rfl, -, -, rfl, rfl, rfl⟩ := h1.zero
      obtain ⟨rfl, -, -, rfl, rfl, rfl⟩ := h2.zero
      have hm := small_mul e3 e4
      clear h1 h2
      generalize hxy : s1 * s2 = m at *
      obtain ⟨⟨r1, r2, r3⟩, r4, r5, r6⟩ := bx3 a3
      have hE := Lib.hid (putR (RV.small wc (x := m) (by omega) (by omega)) a3 B3 (by omega))
      go_wp2
      refine bodyPost_ret (results_cell_row rfl _ _ (w.heap.size + 1 + 1) 49 #[.int .i64 m, .bool false, .slice none 0 0] (0, 0) _ rfl hE.out.2.2 Tryz.underlying49 rfl (by kernel_rfl)) rfl ?_
      exact ⟨⟨_, _, _, _, _, rfl, hE.out.1⟩, hE.out.2.1⟩
end Go.Proofs.YtloplmmnmehkmaaGreat
