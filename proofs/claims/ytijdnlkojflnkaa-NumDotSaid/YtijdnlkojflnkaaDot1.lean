/- reference: Same, Dot. -/
import Derived.Test.YtijdnlkojflnkaaRef15
set_option linter.unusedVariables false
set_option linter.unusedSimpArgs false
namespace Go.Proofs.Ytijdnlkojflnkaa
open Go.RowKit

theorem natAbs_tdiv_le (x y : Int) : (x.tdiv y).natAbs ≤ x.natAbs := tdiv_abs x y
theorem szr_divInt {a : Nat} {x y : Int} (hy : y ≠ 0) (h1 : Sz a x) (h2 : Sz a y) : SzR a (Rat.divInt x y) := by
  refine ⟨h1.le ?_, h2.le ?_⟩
  · rw [divInt_num hy, Int.natAbs_mul]
    have h := tdiv_abs x (Int.gcd x y)
    have : y.sign.natAbs ≤ 1 := by
      rcases Int.lt_trichotomy y 0 with h | h | h
      · rw [Int.sign_eq_neg_one_of_neg h]; decide
      · rw [h]; decide
      · rw [Int.sign_eq_one_of_pos h]; decide
    exact Nat.le_trans (Nat.mul_le_mul_right _ this) (by omega)
  · rw [divInt_den hy, Int.natAbs_mul]
    have h := tdiv_abs y (Int.gcd x y)
    have : y.sign.natAbs ≤ 1 := by
      rcases Int.lt_trichotomy y 0 with h | h | h
      · rw [Int.sign_eq_neg_one_of_neg h]; decide
      · rw [h]; decide
      · rw [Int.sign_eq_one_of_pos h]; decide
    exact Nat.le_trans (Nat.mul_le_mul_right _ this) (by omega)
theorem szr_add {a b : Nat} {q r : Rat} (h : SzR a q) (k : SzR b r) : SzR (a + b + 1) (q + r) := by
  have dq := q.den_pos
  have dr := r.den_pos
  rw [rat_add_eq]
  exact szr_divInt (Int.mul_ne_zero (by omega) (by omega)) ((h.1.mul k.2).add ((k.1.mul h.2).mono (by omega))) ((h.2.mul k.2).mono (by omega))
theorem szr_mul {a b : Nat} {q r : Rat} (h : SzR a q) (k : SzR b r) : SzR (a + b) (q * r) := by
  have dq := q.den_pos
  have dr := r.den_pos
  rw [rat_mul_eq]
  exact szr_divInt (Int.mul_ne_zero (by omega) (by omega)) (h.1.mul k.1) (h.2.mul k.2)
/-- The k-th element's value. -/
def eV (xs : List (Int × Int)) (k : Nat) : Rat := Rat.divInt (xs.getD k (0, 0)).1 (xs.getD k (0, 0)).2
/-- The sum of the first k products. -/
def dotV (xs ys : List (Int × Int)) : Nat → Rat
  | 0 => 0
  | k + 1 => dotV xs ys k + eV xs k * eV ys k
theorem dotV_sz {xs ys : List (Int × Int)} (hx : OkNs xs) (hy : OkNs ys) (hl : xs.length = ys.length) (k : Nat) (hk : k ≤ xs.length) : SzR (130 * k + 1) (dotV xs ys k) := by
  induction k with
  | zero => exact ⟨show Sz 1 ((0 : Rat).num) from by unfold Sz; decide, show Sz 1 (((0 : Rat).den : Nat) : Int) from by unfold Sz; decide⟩
  | succ k ih =>
    have h1 := (num_sz (hx.at k (by omega))).1
    have h2 := (num_sz (hy.at k (by omega))).1
    have h3 := szr_add (ih (by omega)) (szr_mul h1 h2)
    exact h3.mono (by omega)
def dotT (xs ys : List (Int × Int)) : Int := if ¬ (OkNs xs ∧ OkNs ys) then 0 else if xs.length ≠ ys.length then 0 else outT (dotV xs ys xs.length)
def dotL (xs ys : List (Int × Int)) : Int := if ¬ (OkNs xs ∧ OkNs ys) then 0 else if xs.length ≠ ys.length then 0 else outL (dotV xs ys xs.length)
def dotE (xs ys : List (Int × Int)) : Int := if ¬ (OkNs xs ∧ OkNs ys) then 1 else if xs.length ≠ ys.length then 2 else outE (dotV xs ys xs.length)
theorem keep4_st6 {w : World} {ga gb i1 i2 i3 i4 : Nat} {x1 x2 x3 x4 : Value} {g : Nat} {y1 y2 y3 y4 y5 y6 : Value} (h : w.cell? ⟨ga, i1, none⟩ = some x1 ∧ w.cell? ⟨ga, i2, none⟩ = some x2 ∧ w.cell? ⟨gb, i3, none⟩ = some x3 ∧ w.cell? ⟨gb, i4, none⟩ = some x4) (e1 : ga ≠ g) (e2 : gb ≠ g) :
    let W := (((((w.setCell ⟨g, 0, none⟩ y1).setCell ⟨g, 1, none⟩ y2).setCell ⟨g, 2, none⟩ y3).setCell ⟨g, 3, none⟩ y4).setCell ⟨g, 4, none⟩ y5).setCell ⟨g, 5, none⟩ y6
    W.cell? ⟨ga, i1, none⟩ = some x1 ∧ W.cell? ⟨ga, i2, none⟩ = some x2 ∧ W.cell? ⟨gb, i3, none⟩ = some x3 ∧ W.cell? ⟨gb, i4, none⟩ = some x4 :=
  keep4_set1 (keep4_set1 (keep4_set1 (keep4_set1 (keep4_set1 (keep4_set1 h e1 e1 e2 e2) e1 e1 e2 e2) e1 e1 e2 e2) e1 e1 e2 e2) e1 e1 e2 e2) e1 e1 e2 e2

set_option maxHeartbeats 8000000 in
set_option maxRecDepth 100000 in
theorem rsame_calls (A : Option Addr) (n c : Nat) (A' : Option Addr) (c' : Nat) (xs : List (Int × Int)) (w : World) (h : RdN w A n xs) (h' : RdN w A' n xs) :
    Calls Try.prog 34 #[.slice A n c, .slice A' n c'] w fun e w' => e = .returned (.bool true) ∧ Below w.heap.size w w' := by
  have hn := h.2.1
  go_enter Try.func34, Try.ntmps34
  go_wp2_with fail
  go_loopw [13] (fun i wr => ∃ k : Nat, k ≤ n ∧ i = .int .i64 k ∧ Below w.heap.size w wr) (fun i _ => n - (intOf i).toNat)
  case atStart => exact ⟨0, Nat.zero_le _, rfl, by first | exact Below.refl _ _⟩
  case round =>
    obtain ⟨k, hk, rfl, hBw⟩ := hrel
    by_cases hlt : k < n
    · have hr := h.below hBw
      have hr' := h'.below hBw
      obtain ⟨g, off, rfl, hg, hc⟩ := hr.2.2 (by omega)
      obtain ⟨g', off', rfl, hg', hc'⟩ := hr'.2.2 (by omega)
      obtain ⟨c1, c2⟩ := hc k hlt
      obtain ⟨d1, d2⟩ := hc' k hlt
      have hk0 : (0 : Int) ≤ (k : Int) := by omega
      have hkn : (k : Int) < (n : Int) := by omega
      clear hc hr h hc' hr' h'
      generalize (xs.getD k (0, 0)).1 = x1 at *
      generalize (xs.getD k (0, 0)).2 = x2 at *
      go_wp2_with fail
      go_region_held3 (fun W => W.cell? ⟨g, off + k * 2, none⟩ = some (Value.int .i64 x1) ∧ W.cell? ⟨g, off + k * 2 + 1, none⟩ = some (Value.int .i64 x2) ∧ W.cell? ⟨g', off' + k * 2, none⟩ = some (Value.int .i64 x1) ∧ W.cell? ⟨g', off' + k * 2 + 1, none⟩ = some (Value.int .i64 x2)) (first | exact ⟨c1, c2, d1, d2⟩ | go_keep) (fail)
      all_goals
        go_wp2
        go_roundw
        case rel => exact ⟨k + 1, hlt, by go_num, bl_drew hBw⟩
        case measure => simp [intOf]; omega
    · go_wp2
      go_ret
      exact ⟨rfl, hBw⟩

set_option maxHeartbeats 40000000 in
set_option maxRecDepth 100000 in
theorem rndot_calls (A : Option Addr) (n c : Nat) (xs : List (Int × Int)) (A' : Option Addr) (n' c' : Nat) (ys : List (Int × Int)) (w : World) (h : RdN w A n xs) (h' : RdN w A' n' ys) (hi : I64s xs) (hi' : I64s ys) (hn : n ≤ 200) (hn' : n' ≤ 200) :
    Calls Try.prog 32 #[.slice A n c, .slice A' n' c'] w fun e w' => NumR e (dotT xs ys) (dotL xs ys) (dotE xs ys) ∧ Below w.heap.size w w' := by
  have LX := Lib.hid h.1
  have LY := Lib.hid h'.1
  unfold dotT dotL dotE
  by_cases oxs : OkNs xs
  · by_cases oys : OkNs ys
    · have oo : ¬ ¬ (OkNs xs ∧ OkNs ys) := fun k => k ⟨oxs, oys⟩
      rw [if_neg oo, if_neg oo, if_neg oo]
      clear oo
      by_cases hl : xs.length = ys.length
      · have hl' : ¬ xs.length ≠ ys.length := fun k => k hl
        rw [if_neg hl', if_neg hl', if_neg hl']
        clear hl'
        have HL := Lib.hid hl
        have hnn : n = n' := by rw [← LX.out, ← LY.out]; exact hl
        subst hnn
        clear hl
        replace oxs := Lib.hid oxs
        replace oys := Lib.hid oys
        have SZ := Lib.hid (fun k hk => dotV_sz oxs.out oys.out HL.out k hk)
        generalize hT : outT (dotV xs ys xs.length) = oT
        generalize hL : outL (dotV xs ys xs.length) = oL
        generalize hE : outE (dotV xs ys xs.length) = oE
        rw [LX.out] at hT hL hE
        replace hT := Lib.hid hT
        replace hL := Lib.hid hL
        replace hE := Lib.hid hE
        go_enter Try.func32, Try.ntmps32
        go_wp2_with fail
        have B0 := bl_alloc (Below.refl w.heap.size w) (.cells #[.int .i64 0, .int .i64 0] 23)
        have a1 : (w.alloc (.cells #[.int .i64 0, .int .i64 0] 23)).heap[w.heap.size]? = some (.cells #[.int .i64 0, .int .i64 0] 23 (0, 0)) := blk_at _ rfl
        generalize w.alloc (.cells #[.int .i64 0, .int .i64 0] 23) = W0 at *
        refine (rall_calls A n c xs _ (h.below B0) hi).mono ?_
        rintro e w1 ⟨he, hB1⟩
        rw [decide_eq_true oxs.out] at he
        subst he
        replace a1 := blk_below a1 hB1
        replace B0 := bl_then B0 hB1
        clear hB1
        go_wp2_with fail
        refine (rall_calls A' n c' ys _ (h'.below B0) hi').mono ?_
        rintro e w2 ⟨he, hB2⟩
        rw [decide_eq_true oys.out] at he
        subst he
        replace a1 := blk_below a1 hB2
        replace B0 := bl_then B0 hB2
        clear hB2
        have nq : ((n : Int) != (n : Int)) = false := by simp
        go_wp2_with fail
        refine (rrwhole_calls 0 _ (by omega) (by omega)).mono ?_
        rintro e w3 ⟨⟨s5, b5, A5, n5, c5, s5', b5', A5', n5', c5', rfl, g5⟩, hB3⟩
        replace g5 : RRV w3 s5 b5 A5 n5 c5 s5' b5' A5' n5' c5' (dotV xs ys 0) := g5
        have R5 := RX.new w3 g5 rfl
        have lgs := blk_lt (blk_below a1 hB3)
        replace a1 := blk_alloc (blk_below a1 hB3) (.cells #[.int .i64 s5, .bool b5, .slice A5 n5 c5, .int .i64 s5', .bool b5', .slice A5' n5' c5'] 34)
        replace B0 := bl_alloc (bl_then B0 hB3) (.cells #[.int .i64 s5, .bool b5, .slice A5 n5 c5, .int .i64 s5', .bool b5', .slice A5' n5' c5'] 34)
        have sz3 := (bl_then B0 (Below.refl _ _)).size
        clear hB3 g5 nq
        go_upto_region 6 with (fail)
        generalize hgs : w3.heap.size = gs at *
        generalize w3.alloc (.cells #[.int .i64 s5, .bool b5, .slice A5 n5 c5, .int .i64 s5', .bool b5', .slice A5' n5' c5'] 34) = W3 at *
        clear hgs sz3
        go_wp2_with fail
        go_loopw [28] (fun i wr => ∃ (k : Nat) (s8 : Int) (b8 : Bool) (A8 : Option Addr) (n8 c8 : Nat) (s8' : Int) (b8' : Bool) (A8' : Option Addr) (n8' c8' : Nat), k ≤ n ∧ i = .int .i64 k ∧ RX wr (gs) s8 b8 A8 n8 c8 s8' b8' A8' n8' c8' (dotV xs ys k) ∧ wr.heap[w.heap.size]? = some (.cells #[.int .i64 0, .int .i64 0] 23 (0, 0)) ∧ Below w.heap.size w wr) (fun i _ => n - (intOf i).toNat)
        case atStart => exact ⟨0, s5, b5, A5, n5, c5, s5', b5', A5', n5', c5', Nat.zero_le _, rfl, R5, a1, B0⟩
        case round =>
          clear R5 a1 B0
          obtain ⟨k, s8, b8, A8, n8, c8, s8', b8', A8', n8', c8', hk, rfl, R5, a1, B0⟩ := hrel
          by_cases hlt : k < n
          · have hr := h.below B0
            have hr' := h'.below B0
            obtain ⟨g1, o1, rfl, hg1, hc1⟩ := h.2.2 (by omega)
            obtain ⟨g2, o2, rfl, hg2, hc2⟩ := h'.2.2 (by omega)
            have N1 := Lib.hid (show g1 ≠ gs by omega)
            have N2 := Lib.hid (show g2 ≠ gs by omega)
            have Q0 : wr.cell? ⟨g1, o1 + k * 2, none⟩ = some (Value.int .i64 (xs.getD k (0, 0)).1) ∧ wr.cell? ⟨g1, o1 + k * 2 + 1, none⟩ = some (Value.int .i64 (xs.getD k (0, 0)).2) ∧ wr.cell? ⟨g2, o2 + k * 2, none⟩ = some (Value.int .i64 (ys.getD k (0, 0)).1) ∧ wr.cell? ⟨g2, o2 + k * 2 + 1, none⟩ = some (Value.int .i64 (ys.getD k (0, 0)).2) := by
              obtain ⟨e1, e2⟩ := hc1 k hlt
              obtain ⟨e3, e4⟩ := hc2 k hlt
              exact ⟨by rw [(cells_below B0).1 _ _ hg1]; exact e1, by rw [(cells_below B0).1 _ _ hg1]; exact e2, by rw [(cells_below B0).1 _ _ hg2]; exact e3, by rw [(cells_below B0).1 _ _ hg2]; exact e4⟩
            have okx := Lib.hid (oxs.out.at k (by rw [LX.out]; exact hlt))
            have oky := Lib.hid (oys.out.at k (by rw [LY.out]; exact hlt))
            have SK := SZ.out k (by rw [LX.out]; exact hk)
            have SX := (num_sz okx.out).1
            have SY := (num_sz oky.out).1
            have SXY := szr_mul SX SY
            have DS := Lib.hid (show dotV xs ys (k + 1) = dotV xs ys k + Rat.divInt (xs.getD k (0, 0)).1 (xs.getD k (0, 0)).2 * Rat.divInt (ys.getD k (0, 0)).1 (ys.getD k (0, 0)).2 from rfl)
            clear hc1 hc2 hr hr' h h'
            generalize (xs.getD k (0, 0)).1 = x1 at *
            generalize (xs.getD k (0, 0)).2 = x2 at *
            generalize (ys.getD k (0, 0)).1 = y1 at *
            generalize (ys.getD k (0, 0)).2 = y2 at *
            generalize hqx : Rat.divInt x1 x2 = qx at *
            generalize hqy : Rat.divInt y1 y2 = qy at *
            have HQX := Lib.hid hqx
            have HQY := Lib.hid hqy
            clear hqx hqy
            have hk0 : (0 : Int) ≤ (k : Int) := by omega
            have hkn : (k : Int) < (n : Int) := by omega
            obtain ⟨p1, p2, p3, p4⟩ := Q0
            have Q0 := And.intro p1 (And.intro p2 (And.intro p3 p4))
            have R5_0 := R5
            have a1_0 := a1
            have HB_0 := B0
            have F0 := bx6 R5.1
            obtain ⟨⟨f1, f2, f3, f4, f5, f6⟩, f7, f8, f9, f10, f11, f12⟩ := F0
            have lg1 : w.heap.size ≠ gs := by omega
            have NA := Lib.hid lg1
            clear lg1
            go_wp2_with fail
            go_region_with (first | (have _hh := HB_3; go_at_call 63; refine (rrplus_calls s8 b8 A8 n8 c8 s8' b8' A8' n8' c8' (dotV xs ys k) s3 b3 A3 n3 c3 s3' b3' A3' n3' c3' (qx * qy) _ (by repeat (first | with_reducible exact RX.val R5_3 | with_reducible refine RRV.kp ?_ ((Kp.refl _ _).alloc _) | with_reducible refine RRV.kp ?_ (Kp.refl _ _).drew)) (by repeat (first | with_reducible exact t3_3 | with_reducible refine RRV.kp ?_ ((Kp.refl _ _).alloc _) | with_reducible refine RRV.kp ?_ (Kp.refl _ _).drew)) 30000 (SK.mono (by omega)) (SXY.mono (by omega)) (by omega)).mono ?_; rintro e ww4 ⟨⟨s4, b4, A4, n4, c4, s4', b4', A4', n4', c4', rfl, t4_4⟩, hB4⟩; have R5_4 : RX ww4 (gs) s8 b8 A8 n8 c8 s8' b8' A8' n8' c8' (dotV xs ys k) := (by repeat (first | with_reducible exact R5_3 | with_reducible refine RX.below ?_ hB4 | with_reducible refine RX.alloc ?_ _ | with_reducible refine RX.drew ?_)); have a1_4 : ww4.heap[w.heap.size]? = some (.cells #[.int .i64 0, .int .i64 0] 23 (0, 0)) := (by repeat (first | with_reducible exact a1_3 | with_reducible refine blk_below ?_ hB4 | with_reducible refine blk_alloc ?_ _ | with_reducible refine blk_drew ?_)); have t1_4 : RRV ww4 s1 b1 A1 n1 c1 s1' b1' A1' n1' c1' (qx) := (by repeat (first | with_reducible exact t1_3 | with_reducible refine RRV.below ?_ hB4 | with_reducible refine RRV.kp ?_ ((Kp.refl _ _).alloc _) | with_reducible refine RRV.kp ?_ (Kp.refl _ _).drew)); have t2_4 : RRV ww4 s2 b2 A2 n2 c2 s2' b2' A2' n2' c2' (qy) := (by repeat (first | with_reducible exact t2_3 | with_reducible refine RRV.below ?_ hB4 | with_reducible refine RRV.kp ?_ ((Kp.refl _ _).alloc _) | with_reducible refine RRV.kp ?_ (Kp.refl _ _).drew)); have t3_4 : RRV ww4 s3 b3 A3 n3 c3 s3' b3' A3' n3' c3' (qx * qy) := (by repeat (first | with_reducible exact t3_3 | with_reducible refine RRV.below ?_ hB4 | with_reducible refine RRV.kp ?_ ((Kp.refl _ _).alloc _) | with_reducible refine RRV.kp ?_ (Kp.refl _ _).drew)); have HB_4 : Below w.heap.size w ww4 := (by repeat (first | with_reducible exact HB_3 | with_reducible refine bl_then ?_ hB4 | with_reducible refine bl_alloc ?_ _ | with_reducible refine bl_drew ?_)); have P4 := RX.s6 (R5_4); have Q4 := keep4 hB4 Q3; have F4 := bx6 R5_4.1; obtain ⟨⟨f41, f42, f43, f44, f45, f46⟩, f47, f48, f49, f410, f411, f412⟩ := F4) | (have _hh := HB_2; go_at_call 64; refine (rrtimes_calls s1 b1 A1 n1 c1 s1' b1' A1' n1' c1' qx s2 b2 A2 n2 c2 s2' b2' A2' n2' c2' qy _ (by repeat (first | with_reducible exact t1_2 | with_reducible refine RRV.kp ?_ ((Kp.refl _ _).alloc _) | with_reducible refine RRV.kp ?_ (Kp.refl _ _).drew)) (by repeat (first | with_reducible exact t2_2 | with_reducible refine RRV.kp ?_ ((Kp.refl _ _).alloc _) | with_reducible refine RRV.kp ?_ (Kp.refl _ _).drew)) 64 SX SY (by omega)).mono ?_; rintro e ww3 ⟨⟨s3, b3, A3, n3, c3, s3', b3', A3', n3', c3', rfl, t3_3⟩, hB3⟩; have R5_3 : RX ww3 (gs) s8 b8 A8 n8 c8 s8' b8' A8' n8' c8' (dotV xs ys k) := (by repeat (first | with_reducible exact R5_2 | with_reducible refine RX.below ?_ hB3 | with_reducible refine RX.alloc ?_ _ | with_reducible refine RX.drew ?_)); have a1_3 : ww3.heap[w.heap.size]? = some (.cells #[.int .i64 0, .int .i64 0] 23 (0, 0)) := (by repeat (first | with_reducible exact a1_2 | with_reducible refine blk_below ?_ hB3 | with_reducible refine blk_alloc ?_ _ | with_reducible refine blk_drew ?_)); have t1_3 : RRV ww3 s1 b1 A1 n1 c1 s1' b1' A1' n1' c1' (qx) := (by repeat (first | with_reducible exact t1_2 | with_reducible refine RRV.below ?_ hB3 | with_reducible refine RRV.kp ?_ ((Kp.refl _ _).alloc _) | with_reducible refine RRV.kp ?_ (Kp.refl _ _).drew)); have t2_3 : RRV ww3 s2 b2 A2 n2 c2 s2' b2' A2' n2' c2' (qy) := (by repeat (first | with_reducible exact t2_2 | with_reducible refine RRV.below ?_ hB3 | with_reducible refine RRV.kp ?_ ((Kp.refl _ _).alloc _) | with_reducible refine RRV.kp ?_ (Kp.refl _ _).drew)); have HB_3 : Below w.heap.size w ww3 := (by repeat (first | with_reducible exact HB_2 | with_reducible refine bl_then ?_ hB3 | with_reducible refine bl_alloc ?_ _ | with_reducible refine bl_drew ?_)); have P3 := RX.s6 (R5_3); have Q3 := keep4 hB3 Q2; have F3 := bx6 R5_3.1; obtain ⟨⟨f31, f32, f33, f34, f35, f36⟩, f37, f38, f39, f310, f311, f312⟩ := F3) | (have _hh := HB_1; go_at_call_of 13 (Value.agg #[.int .i64 y1, .int .i64 y2]); refine (rto_calls y1 y2 _ oky.out).mono ?_; rintro e ww2 ⟨⟨s2, b2, A2, n2, c2, s2', b2', A2', n2', c2', rfl, t2_2⟩, hB2⟩; rw [HQY.out] at t2_2; have R5_2 : RX ww2 (gs) s8 b8 A8 n8 c8 s8' b8' A8' n8' c8' (dotV xs ys k) := (by repeat (first | with_reducible exact R5_1 | with_reducible refine RX.below ?_ hB2 | with_reducible refine RX.alloc ?_ _ | with_reducible refine RX.drew ?_)); have a1_2 : ww2.heap[w.heap.size]? = some (.cells #[.int .i64 0, .int .i64 0] 23 (0, 0)) := (by repeat (first | with_reducible exact a1_1 | with_reducible refine blk_below ?_ hB2 | with_reducible refine blk_alloc ?_ _ | with_reducible refine blk_drew ?_)); have t1_2 : RRV ww2 s1 b1 A1 n1 c1 s1' b1' A1' n1' c1' (qx) := (by repeat (first | with_reducible exact t1_1 | with_reducible refine RRV.below ?_ hB2 | with_reducible refine RRV.kp ?_ ((Kp.refl _ _).alloc _) | with_reducible refine RRV.kp ?_ (Kp.refl _ _).drew)); have HB_2 : Below w.heap.size w ww2 := (by repeat (first | with_reducible exact HB_1 | with_reducible refine bl_then ?_ hB2 | with_reducible refine bl_alloc ?_ _ | with_reducible refine bl_drew ?_)); have P2 := RX.s6 (R5_2); have Q2 := keep4 hB2 Q1; have F2 := bx6 R5_2.1; obtain ⟨⟨f21, f22, f23, f24, f25, f26⟩, f27, f28, f29, f210, f211, f212⟩ := F2) | (go_at_call_of 13 (Value.agg #[.int .i64 x1, .int .i64 x2]); refine (rto_calls x1 x2 _ okx.out).mono ?_; rintro e ww1 ⟨⟨s1, b1, A1, n1, c1, s1', b1', A1', n1', c1', rfl, t1_1⟩, hB1⟩; rw [HQX.out] at t1_1; have R5_1 : RX ww1 (gs) s8 b8 A8 n8 c8 s8' b8' A8' n8' c8' (dotV xs ys k) := (by repeat (first | with_reducible exact R5_0 | with_reducible refine RX.below ?_ hB1 | with_reducible refine RX.alloc ?_ _ | with_reducible refine RX.drew ?_)); have a1_1 : ww1.heap[w.heap.size]? = some (.cells #[.int .i64 0, .int .i64 0] 23 (0, 0)) := (by repeat (first | with_reducible exact a1_0 | with_reducible refine blk_below ?_ hB1 | with_reducible refine blk_alloc ?_ _ | with_reducible refine blk_drew ?_)); have HB_1 : Below w.heap.size w ww1 := (by repeat (first | with_reducible exact HB_0 | with_reducible refine bl_then ?_ hB1 | with_reducible refine bl_alloc ?_ _ | with_reducible refine bl_drew ?_)); have P1 := RX.s6 (R5_1); have Q1 := keep4 hB1 (by first | exact Q0 | exact kdrew4 Q0); have F1 := bx6 R5_1.1; obtain ⟨⟨f11, f12, f13, f14, f15, f16⟩, f17, f18, f19, f110, f111, f112⟩ := F1))
            all_goals
              have U1 := Lib.hid (RX.put t4_4 R5_4.1)
              have U2 := Lib.hid (blk_far6 a1_4 NA.out (.int .i64 s4) (.bool b4) (.slice A4 n4 c4) (.int .i64 s4') (.bool b4') (.slice A4' n4' c4'))
              have U3 := Lib.hid (bl_set6 (g := gs) HB_4 (by omega) (.int .i64 s4) (.bool b4) (.slice A4 n4 c4) (.int .i64 s4') (.bool b4') (.slice A4' n4' c4'))
              go_wp2
              go_roundw
              case rel => exact ⟨k + 1, s4, b4, A4, n4, c4, s4', b4', A4', n4', c4', hlt, by go_num, by rw [DS.out]; exact U1.out, U2.out, U3.out⟩
              case measure => simp [intOf]; omega
          · have hkn : k = n := by omega
            subst hkn
            obtain ⟨⟨f1, f2, f3, f4, f5, f6⟩, f7, f8, f9, f10, f11, f12⟩ := bx6 R5.1
            go_wp2_with fail
            refine (rnum_calls s8 b8 A8 n8 c8 s8' b8' A8' n8' c8' (dotV xs ys k) _ R5.2).mono ?_
            rintro e w4 ⟨he, hB4⟩
            rw [hT.out, hL.out, hE.out] at he
            unfold NumR at he
            subst he
            replace a1 := blk_below a1 hB4
            replace B0 := bl_then B0 hB4
            clear hB4 f1 f2 f3 f4 f5 f6 f7 f8 f9 f10 f11 f12 R5
            obtain ⟨z1, z2, z3, z4⟩ := bx2 a1
            go_wp2
            refine bodyPost_ret (results_cell_tmp_row rfl _ _ w.heap.size 23 #[.int .i64 oT, .int .i64 oL] (0, 0) _ _ rfl (by first | exact a1 | exact blk_set2 a1 _ _) Try.underlying23 rfl (by kernel_rfl) rfl) rfl ?_
            exact ⟨rfl, by first | exact B0 | exact bl_set (bl_set B0 (Nat.le_refl _) _) (Nat.le_refl _) _⟩
      · have hl' : xs.length ≠ ys.length := hl
        rw [if_pos hl', if_pos hl', if_pos hl']
        have nq : ((n : Int) != (n' : Int)) = true := by
          have := LX.out
          have := LY.out
          simp
          omega
        clear hl hl'
        replace oxs := Lib.hid oxs
        replace oys := Lib.hid oys
        go_enter Try.func32, Try.ntmps32
        go_wp2_with fail
        have B0 := bl_alloc (Below.refl w.heap.size w) (.cells #[.int .i64 0, .int .i64 0] 23)
        have a1 : (w.alloc (.cells #[.int .i64 0, .int .i64 0] 23)).heap[w.heap.size]? = some (.cells #[.int .i64 0, .int .i64 0] 23 (0, 0)) := blk_at _ rfl
        generalize w.alloc (.cells #[.int .i64 0, .int .i64 0] 23) = W0 at *
        refine (rall_calls A n c xs _ (h.below B0) hi).mono ?_
        rintro e w1 ⟨he, hB1⟩
        rw [decide_eq_true oxs.out] at he
        subst he
        replace a1 := blk_below a1 hB1
        replace B0 := bl_then B0 hB1
        clear hB1
        go_wp2_with fail
        refine (rall_calls A' n' c' ys _ (h'.below B0) hi').mono ?_
        rintro e w2 ⟨he, hB2⟩
        rw [decide_eq_true oys.out] at he
        subst he
        replace a1 := blk_below a1 hB2
        replace B0 := bl_then B0 hB2
        clear hB2
        obtain ⟨z1, z2, z3, z4⟩ := bx2 a1
        go_wp2
        refine bodyPost_ret (results_cell_tmp_row rfl _ _ w.heap.size 23 #[.int .i64 0, .int .i64 0] (0, 0) _ _ rfl (by first | exact a1 | exact blk_set2 a1 _ _) Try.underlying23 rfl (by kernel_rfl) rfl) rfl ?_
        exact ⟨rfl, by first | exact B0 | exact bl_set (bl_set B0 (Nat.le_refl _) _) (Nat.le_refl _) _⟩
    · have oo : ¬ (OkNs xs ∧ OkNs ys) := fun k => oys k.2
      rw [if_pos oo, if_pos oo, if_pos oo]
      clear oo
      replace oxs := Lib.hid oxs
      replace oys := Lib.hid oys
      go_enter Try.func32, Try.ntmps32
      go_wp2_with fail
      have B0 := bl_alloc (Below.refl w.heap.size w) (.cells #[.int .i64 0, .int .i64 0] 23)
      have a1 : (w.alloc (.cells #[.int .i64 0, .int .i64 0] 23)).heap[w.heap.size]? = some (.cells #[.int .i64 0, .int .i64 0] 23 (0, 0)) := blk_at _ rfl
      generalize w.alloc (.cells #[.int .i64 0, .int .i64 0] 23) = W0 at *
      refine (rall_calls A n c xs _ (h.below B0) hi).mono ?_
      rintro e w1 ⟨he, hB1⟩
      rw [decide_eq_true oxs.out] at he
      subst he
      replace a1 := blk_below a1 hB1
      replace B0 := bl_then B0 hB1
      clear hB1
      go_wp2_with fail
      refine (rall_calls A' n' c' ys _ (h'.below B0) hi').mono ?_
      rintro e w2 ⟨he, hB2⟩
      rw [decide_eq_false oys.out] at he
      subst he
      replace a1 := blk_below a1 hB2
      replace B0 := bl_then B0 hB2
      clear hB2
      obtain ⟨z1, z2, z3, z4⟩ := bx2 a1
      go_wp2
      refine bodyPost_ret (results_cell_tmp_row rfl _ _ w.heap.size 23 #[.int .i64 0, .int .i64 0] (0, 0) _ _ rfl (by first | exact a1 | exact blk_set2 a1 _ _) Try.underlying23 rfl (by kernel_rfl) rfl) rfl ?_
      exact ⟨rfl, by first | exact B0 | exact bl_set (bl_set B0 (Nat.le_refl _) _) (Nat.le_refl _) _⟩
  · have oo : ¬ (OkNs xs ∧ OkNs ys) := fun k => oxs k.1
    rw [if_pos oo, if_pos oo, if_pos oo]
    clear oo
    replace oxs := Lib.hid oxs
    go_enter Try.func32, Try.ntmps32
    go_wp2_with fail
    have B0 := bl_alloc (Below.refl w.heap.size w) (.cells #[.int .i64 0, .int .i64 0] 23)
    have a1 : (w.alloc (.cells #[.int .i64 0, .int .i64 0] 23)).heap[w.heap.size]? = some (.cells #[.int .i64 0, .int .i64 0] 23 (0, 0)) := blk_at _ rfl
    generalize w.alloc (.cells #[.int .i64 0, .int .i64 0] 23) = W0 at *
    refine (rall_calls A n c xs _ (h.below B0) hi).mono ?_
    rintro e w1 ⟨he, hB1⟩
    rw [decide_eq_false oxs.out] at he
    subst he
    replace a1 := blk_below a1 hB1
    replace B0 := bl_then B0 hB1
    clear hB1
    obtain ⟨z1, z2, z3, z4⟩ := bx2 a1
    go_wp2
    refine bodyPost_ret (results_cell_tmp_row rfl _ _ w.heap.size 23 #[.int .i64 0, .int .i64 0] (0, 0) _ _ rfl (by first | exact a1 | exact blk_set2 a1 _ _) Try.underlying23 rfl (by kernel_rfl) rfl) rfl ?_
    exact ⟨rfl, by first | exact B0 | exact bl_set (bl_set B0 (Nat.le_refl _) _) (Nat.le_refl _) _⟩
end Go.Proofs.Ytijdnlkojflnkaa
