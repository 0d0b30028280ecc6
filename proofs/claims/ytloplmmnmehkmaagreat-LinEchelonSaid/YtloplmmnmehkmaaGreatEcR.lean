/- reference: rationals. reference: operations on rationals. reference: To, Valid, From, Num, Down. -/
import Derived.Test.YtloplmmnmehkmaaGreatRef9
import Derived.Test.YtloplmmnmehkmaaGreatRat3
import Derived.Test.YtloplmmnmehkmaaGreatNum1
set_option linter.unusedVariables false
set_option linter.unusedSimpArgs false
namespace Go.Proofs.YtloplmmnmehkmaaGreat
open Go.RowKit

/-- A rational of the reference. -/
def RRV (w : World) (s : Int) (b : Bool) (A : Option Addr) (n c : Nat) (s' : Int) (b' : Bool) (A' : Option Addr) (n' c' : Nat) (q : Rat) : Prop := RV w s b A n c q.num ∧ RV w s' b' A' n' c' (q.den : Int)
def RRatR (e : Ending) (w : World) (q : Rat) : Prop := ∃ (s : Int) (b : Bool) (A : Option Addr) (n c : Nat) (s' : Int) (b' : Bool) (A' : Option Addr) (n' c' : Nat), e = .returned (.agg #[.int .i64 s, .bool b, .slice A n c, .int .i64 s', .bool b', .slice A' n' c']) ∧ RRV w s b A n c s' b' A' n' c' q
section
variable {w w' W : World} {s : Int} {b : Bool} {A : Option Addr} {n c : Nat} {s' : Int} {b' : Bool} {A' : Option Addr} {n' c' : Nat} {q : Rat} {g : Nat}
theorem RRV.kp (h : RRV w s b A n c s' b' A' n' c' q) (e : Kp 3 w w') : RRV w' s b A n c s' b' A' n' c' q := ⟨h.1.kp e, h.2.kp e⟩
theorem RRV.below (h : RRV w s b A n c s' b' A' n' c' q) (e : Below w.heap.size w w') : RRV w' s b A n c s' b' A' n' c' q := ⟨h.1.below e, h.2.below e⟩
theorem putRR {a1 a2 a3 a4 a5 a6 : Value} (h : RRV W s b A n c s' b' A' n' c' q) (hb : W.heap[g]? = some (.cells #[a1, a2, a3, a4, a5, a6] 51 (0, 0))) (hB : Below w.heap.size w W) (hg : w.heap.size ≤ g) :
    let W' := (((((W.setCell ⟨g, 0, none⟩ (.int .i64 s)).setCell ⟨g, 1, none⟩ (.bool b)).setCell ⟨g, 2, none⟩ (.slice A n c)).setCell ⟨g, 3, none⟩ (.int .i64 s')).setCell ⟨g, 4, none⟩ (.bool b')).setCell ⟨g, 5, none⟩ (.slice A' n' c')
    RRV W' s b A n c s' b' A' n' c' q ∧ Below w.heap.size w W' ∧ W'.heap[g]? = some (.cells #[.int .i64 s, .bool b, .slice A n c, .int .i64 s', .bool b', .slice A' n' c'] 51 (0, 0)) :=
  ⟨h.kp (kp_set6 hb _ _ _ _ _ _), bl_set6 hB hg _ _ _ _ _ _, blk_set6 hb _ _ _ _ _ _⟩
end
theorem make_law {x y : Int} (hy : y ≠ 0) : (y.sign * x).tdiv (Int.gcd x y) = (Rat.divInt x y).num ∧ (y.natAbs : Int).tdiv (Int.gcd x y) = ((Rat.divInt x y).den : Int) := by
  have h1 := divInt_num (x := x) hy
  have h2 := divInt_den (x := x) hy
  rcases Int.lt_trichotomy y 0 with h | h | h
  · rw [Int.sign_eq_neg_one_of_neg h] at h1 h2 ⊢
    rw [h1, h2]
    have e : (y.natAbs : Int) = -y := by omega
    rw [e]
    simp [Int.neg_tdiv]
  · exact absurd h hy
  · rw [Int.sign_eq_one_of_pos h] at h1 h2 ⊢
    rw [h1, h2]
    have e : (y.natAbs : Int) = y := by omega
    rw [e]
    simp

set_option maxHeartbeats 8000000 in
set_option maxRecDepth 100000 in
theorem rmake_calls (s1 : Int) (b1 : Bool) (A1 : Option Addr) (n1 c1 : Nat) (x : Int) (s2 : Int) (b2 : Bool) (A2 : Option Addr) (n2 c2 : Nat) (y : Int) (w : World) (h1 : RV w s1 b1 A1 n1 c1 x) (h2 : RV w s2 b2 A2 n2 c2 y) (k : Nat) (z1 : Sz k x) (z2 : Sz k y) (hk : k ≤ 20000000000) (hk0 : 1 ≤ k) (hy : y ≠ 0) :
    Calls Tryz.prog 77 #[.agg #[.int .i64 s1, .bool b1, .slice A1 n1 c1], .agg #[.int .i64 s2, .bool b2, .slice A2 n2 c2]] w fun e w' => RRatR e w' (Rat.divInt x y) ∧ Below w.heap.size w w' := by
  have LAW := Lib.hid (make_law (x := x) hy)
  have hgp := gcd_pos (x := x) hy
  have hgs : Sz k (Int.gcd x y : Int) := z2.le (by
    show ((Int.gcd x y : Nat) : Int).natAbs ≤ y.natAbs
    rw [Int.natAbs_natCast]
    exact Nat.gcd_le_right _ (by omega))
  have hgi : Int.gcd (y.sign * x) (y.natAbs : Int) = Int.gcd x y := by
    rcases Int.lt_trichotomy y 0 with h | h | h
    · rw [Int.sign_eq_neg_one_of_neg h]; simp [Int.gcd]
    · exact absurd h hy
    · rw [Int.sign_eq_one_of_pos h]; simp [Int.gcd]
  have HGI := Lib.hid hgi
  clear hgi
  have sX : Sz k (y.sign * x) := z1.le (by
    rw [Int.natAbs_mul]
    have : y.sign.natAbs ≤ 1 := by
      rcases Int.lt_trichotomy y 0 with h | h | h
      · rw [Int.sign_eq_neg_one_of_neg h]; decide
      · rw [h]; decide
      · rw [Int.sign_eq_one_of_pos h]; decide
    exact Nat.le_trans (Nat.mul_le_mul_right _ this) (by omega))
  have sY : Sz k (y.natAbs : Int) := z2.le (by omega)
  have hXneg : y < 0 → -x = y.sign * x ∧ -y = (y.natAbs : Int) := fun h => by rw [Int.sign_eq_neg_one_of_neg h]; omega
  have hXpos : ¬ y < 0 → x = y.sign * x ∧ y = (y.natAbs : Int) := fun h => by rw [Int.sign_eq_one_of_pos (by omega)]; omega
  replace hXneg := Lib.hid hXneg
  replace hXpos := Lib.hid hXpos
  generalize hX : y.sign * x = X at *
  generalize hY : (y.natAbs : Int) = Y at *
  have HY0 : Y ≠ 0 := by omega
  clear hX hY
  generalize hgg : ((Int.gcd x y : Nat) : Int) = gg at *
  have HGG := Lib.hid hgg
  clear hgg
  generalize hq : Rat.divInt x y = q at *
  clear hq
  go_enter Tryz.func77, Tryz.ntmps77
  go_wp2_with fail
  have B0 := bl_alloc (bl_alloc (bl_alloc (Below.refl w.heap.size w) (.cells #[.int .i64 s1, .bool b1, .slice A1 n1 c1] 49)) (.cells #[.int .i64 s2, .bool b2, .slice A2 n2 c2] 49)) (.cells #[.int .i64 0, .bool false, .slice none 0 0, .int .i64 0, .bool false, .slice none 0 0] 51)
  have a1 : (((w.alloc (.cells #[.int .i64 s1, .bool b1, .slice A1 n1 c1] 49)).alloc (.cells #[.int .i64 s2, .bool b2, .slice A2 n2 c2] 49)).alloc (.cells #[.int .i64 0, .bool false, .slice none 0 0, .int .i64 0, .bool false, .slice none 0 0] 51)).heap[w.heap.size]? = some (.cells #[.int .i64 s1, .bool b1, .slice A1 n1 c1] 49 (0, 0)) := blk_alloc (blk_alloc (blk_at _ rfl) _) _
  have a2 : (((w.alloc (.cells #[.int .i64 s1, .bool b1, .slice A1 n1 c1] 49)).alloc (.cells #[.int .i64 s2, .bool b2, .slice A2 n2 c2] 49)).alloc (.cells #[.int .i64 0, .bool false, .slice none 0 0, .int .i64 0, .bool false, .slice none 0 0] 51)).heap[w.heap.size + 1]? = some (.cells #[.int .i64 s2, .bool b2, .slice A2 n2 c2] 49 (0, 0)) := blk_alloc (blk_at _ (by simp)) _
  have a3 : (((w.alloc (.cells #[.int .i64 s1, .bool b1, .slice A1 n1 c1] 49)).alloc (.cells #[.int .i64 s2, .bool b2, .slice A2 n2 c2] 49)).alloc (.cells #[.int .i64 0, .bool false, .slice none 0 0, .int .i64 0, .bool false, .slice none 0 0] 51)).heap[w.heap.size + 1 + 1]? = some (.cells #[.int .i64 0, .bool false, .slice none 0 0, .int .i64 0, .bool false, .slice none 0 0] 51 (0, 0)) := blk_at _ (by simp)
  replace h1 := h1.below B0
  replace h2 := h2.below B0
  generalize ((w.alloc (.cells #[.int .i64 s1, .bool b1, .slice A1 n1 c1] 49)).alloc (.cells #[.int .i64 s2, .bool b2, .slice A2 n2 c2] 49)).alloc (.cells #[.int .i64 0, .bool false, .slice none 0 0, .int .i64 0, .bool false, .slice none 0 0] 51) = W0 at *
  refine (rsign_int_calls s2 b2 A2 n2 c2 y _ h2).mono ?_
  rintro e w1 ⟨rfl, hB1⟩
  replace h1 := h1.below hB1
  replace h2 := h2.below hB1
  replace a1 := blk_below a1 hB1
  replace a2 := blk_below a2 hB1
  replace a3 := blk_below a3 hB1
  replace B0 := bl_then B0 hB1
  clear hB1
  go_upto_if 8 with (fail)
  go_cut [] (fun wx => ∃ (s3 : Int) (b3 : Bool) (A3 : Option Addr) (n3 c3 : Nat) (s4 : Int) (b4 : Bool) (A4 : Option Addr) (n4 c4 : Nat), RV wx s3 b3 A3 n3 c3 X ∧ RV wx s4 b4 A4 n4 c4 Y ∧ wx.heap[w.heap.size]? = some (.cells #[.int .i64 s3, .bool b3, .slice A3 n3 c3] 49 (0, 0)) ∧ wx.heap[w.heap.size + 1]? = some (.cells #[.int .i64 s4, .bool b4, .slice A4 n4 c4] 49 (0, 0)) ∧ wx.heap[w.heap.size + 1 + 1]? = some (.cells #[.int .i64 0, .bool false, .slice none 0 0, .int .i64 0, .bool false, .slice none 0 0] 51 (0, 0)) ∧ Below w.heap.size w wx)
  case first =>
    by_cases hneg : y < 0
    · have hs : y.sign < 0 := Int.sign_neg_iff.2 hneg
      replace hXneg := Lib.hid (hXneg.out hneg)
      generalize y.sign = sg at *
      obtain ⟨⟨p1, p2, p3⟩, p4, p5, p6⟩ := bx3 a1
      obtain ⟨⟨q1, q2, q3⟩, q4, q5, q6⟩ := bx3 a2
      go_wp2_with fail
      go_region_with (first | (go_at_call_of 106 (Value.agg #[.int .i64 s1, .bool b1, .slice A1 n1 c1]); refine (rminus_calls s1 b1 A1 n1 c1 x _ (h1.kp (by first | exact Kp.refl _ _ | exact (Kp.refl _ _).drew))).mono ?_; rintro e w3 ⟨rfl, hBa⟩; have bk1 := blk_below (by first | exact a1 | exact blk_drew a1) hBa; have bk2 := blk_below (by first | exact a2 | exact blk_drew a2) hBa; have bk3 := blk_below (by first | exact a3 | exact blk_drew a3) hBa; have HB1 := bl_then (by first | exact B0 | exact bl_drew B0) hBa; have hIa3 := ((h1.kp (by first | exact Kp.refl _ _ | exact (Kp.refl _ _).drew)).below hBa).neg; have hIb3 := ((h2.kp (by first | exact Kp.refl _ _ | exact (Kp.refl _ _).drew)).below hBa); obtain ⟨⟨r1, r2, r3⟩, r4, r5, r6⟩ := bx3 bk1; obtain ⟨⟨o1, o2, o3⟩, o4, o5, o6⟩ := bx3 bk2) | (go_at_call 106; refine (rminus_calls s2 b2 A2 n2 c2 y _ (by first | exact hIb3 | exact hIb3.kp (Kp.refl _ _).drew)).mono ?_; rintro e w4 ⟨rfl, hBb⟩; have d1 := blk_below (by first | exact bk1 | exact blk_drew bk1) hBb; have d2 := blk_below (by first | exact bk2 | exact blk_drew bk2) hBb; have d3 := blk_below (by first | exact bk3 | exact blk_drew bk3) hBb; have HB2 := bl_then (by first | exact HB1 | exact bl_drew HB1) hBb; have hIa4 := (by first | exact hIa3.below hBb | exact (hIa3.kp (Kp.refl _ _).drew).below hBb : RV w4 (-s1) (decide (0 < n1) && !b1) A1 n1 c1 (-x)); have hIb4 := (by first | exact hIb3.neg.below hBb | exact (hIb3.neg.kp (Kp.refl _ _).drew).below hBb : RV w4 (-s2) (decide (0 < n2) && !b2) A2 n2 c2 (-y)); obtain ⟨⟨t1, t2, t3⟩, t4, t5, t6⟩ := bx3 d1; obtain ⟨⟨u1, u2, u3⟩, u4, u5, u6⟩ := bx3 d2))
      all_goals
        rw [hXneg.out.1] at hIa4
        rw [hXneg.out.2] at hIb4
        have hE := Lib.hid (put3R hIa4 hIb4 d1 d2 d3 HB2 (by omega) (by omega) (by omega) (by omega) (by omega))
        have hE' := Lib.hid (put3Rd hIa4 hIb4 d1 d2 d3 HB2 (by omega) (by omega) (by omega) (by omega) (by omega))
        clear r1 r2 r3 r4 r5 r6 o1 o2 o3 o4 o5 o6 t1 t2 t3 t4 t5 t6 u1 u2 u3 u4 u5 u6
        go_wp2
        go_meet
        case rel => first | (obtain ⟨U1, U2, U3, U4, U5, U6⟩ := hE.out; with_reducible exact ⟨-s1, _, A1, n1, c1, -s2, _, A2, n2, c2, U1, U2, U3, U4, U5, U6⟩) | (obtain ⟨U1, U2, U3, U4, U5, U6⟩ := hE'.out; with_reducible exact ⟨-s1, _, A1, n1, c1, -s2, _, A2, n2, c2, U1, U2, U3, U4, U5, U6⟩)
    · have hs : ¬ y.sign < 0 := fun h => hneg (Int.sign_neg_iff.1 h)
      replace hXpos := hXpos.out (by omega)
      generalize y.sign = sg at *
      rw [hXpos.1] at h1
      rw [hXpos.2] at h2
      clear hXpos
      go_wp2
      go_meet
      case rel => exact ⟨s1, b1, A1, n1, c1, s2, b2, A2, n2, c2, h1, h2, a1, a2, a3, B0⟩
  case rest =>
    clear h1 h2 a1 a2 a3 B0
    obtain ⟨s3, b3, A3, n3, c3, s4, b4, A4, n4, c4, h1, h2, a1, a2, a3, B0⟩ := hcut
    obtain ⟨⟨p1, p2, p3⟩, p4, p5, p6⟩ := bx3 a1
    obtain ⟨⟨q1, q2, q3⟩, q4, q5, q6⟩ := bx3 a2
    go_wp2_with fail
    refine (rigcd_calls s3 b3 A3 n3 c3 X s4 b4 A4 n4 c4 Y _ h1 h2 k sX sY hk).mono ?_
    rintro e w2 ⟨⟨s5, b5, A5, n5, c5, rfl, hg⟩, hB2⟩
    rw [HGI.out, HGG.out] at hg
    replace h1 := h1.below hB2
    replace h2 := h2.below hB2
    replace a1 := blk_below a1 hB2
    replace a2 := blk_below a2 hB2
    replace a3 := blk_below a3 hB2
    replace B0 := bl_then B0 hB2
    clear hB2
    clear p1 p2 p3 p4 p5 p6 q1 q2 q3 q4 q5 q6
    have l3 := blk_lt a3
    have ag : (w2.alloc (.cells #[.int .i64 s5, .bool b5, .slice A5 n5 c5] 49)).heap[w2.heap.size]? = some (.cells #[.int .i64 s5, .bool b5, .slice A5 n5 c5] 49 (0, 0)) := blk_at _ rfl
    replace h1 := h1.kp ((Kp.refl _ _).alloc (.cells #[.int .i64 s5, .bool b5, .slice A5 n5 c5] 49))
    replace h2 := h2.kp ((Kp.refl _ _).alloc (.cells #[.int .i64 s5, .bool b5, .slice A5 n5 c5] 49))
    replace hg := hg.kp ((Kp.refl _ _).alloc (.cells #[.int .i64 s5, .bool b5, .slice A5 n5 c5] 49))
    replace a1 := blk_alloc a1 (.cells #[.int .i64 s5, .bool b5, .slice A5 n5 c5] 49)
    replace a2 := blk_alloc a2 (.cells #[.int .i64 s5, .bool b5, .slice A5 n5 c5] 49)
    replace a3 := blk_alloc a3 (.cells #[.int .i64 s5, .bool b5, .slice A5 n5 c5] 49)
    replace B0 := bl_alloc B0 (.cells #[.int .i64 s5, .bool b5, .slice A5 n5 c5] 49)
    go_upto_region 4 with (fail)
    generalize hgs : w2.heap.size = gs at *
    generalize w2.alloc (.cells #[.int .i64 s5, .bool b5, .slice A5 n5 c5] 49) = W2 at *
    clear hgs
    go_cut [19] (fun t wc => ∃ bb : Bool, t = .bool bb ∧ Hid (bb = false → gg = 1) ∧ RV wc s3 b3 A3 n3 c3 X ∧ RV wc s4 b4 A4 n4 c4 Y ∧ RV wc s5 b5 A5 n5 c5 gg ∧ wc.heap[w.heap.size]? = some (.cells #[.int .i64 s3, .bool b3, .slice A3 n3 c3] 49 (0, 0)) ∧ wc.heap[w.heap.size + 1]? = some (.cells #[.int .i64 s4, .bool b4, .slice A4 n4 c4] 49 (0, 0)) ∧ wc.heap[w.heap.size + 1 + 1]? = some (.cells #[.int .i64 0, .bool false, .slice none 0 0, .int .i64 0, .bool false, .slice none 0 0] 51 (0, 0)) ∧ wc.heap[gs]? = some (.cells #[.int .i64 s5, .bool b5, .slice A5 n5 c5] 49 (0, 0)) ∧ Below w.heap.size w wc)
    case first =>
      obtain ⟨⟨p1, p2, p3⟩, p4, p5, p6⟩ := bx3 ag
      have v1_0 := h1
      have v2_0 := h2
      have v3_0 := hg
      have a1_0 := a1
      have a2_0 := a2
      have a3_0 := a3
      have ag_0 := ag
      have HB_0 := B0
      go_region_held3 (fun W => W.cell? ⟨gs, 0, none⟩ = some (Value.int .i64 s5) ∧ W.cell? ⟨gs, 1, none⟩ = some (Value.bool b5) ∧ W.cell? ⟨gs, 2, none⟩ = some (Value.slice A5 n5 c5)) (first | with_reducible exact P2 | with_reducible exact P1 | with_reducible exact (cx3 (blk_drew ag_0)) | go_keep) (first | (have _hh := HB_1; go_at_call 111; refine (ricmp_calls s5 b5 A5 n5 c5 gg s6 b6 A6 n6 c6 1 _ (by repeat (first | with_reducible exact v3_1 | with_reducible refine RV.kp ?_ (Kp.refl _ _).drew)) (by repeat (first | with_reducible exact t1_1 | with_reducible refine RV.kp ?_ (Kp.refl _ _).drew)) k hgs (show Sz k 1 by unfold Sz; exact Nat.one_lt_two_pow (by omega)) hk).mono ?_; rintro e ww2 ⟨rfl, hB2⟩; have HSG : Hid (((gg - 1).sign != 0) = false → gg = 1) := Lib.hid (fun h => by have h2 : (gg - 1).sign = 0 := (by simpa using h); rw [Int.sign_eq_zero_iff_zero] at h2; omega); generalize (gg - 1).sign = sgg at *; have v1_2 : RV ww2 s3 b3 A3 n3 c3 X := (by repeat (first | with_reducible exact v1_1 | with_reducible refine RV.below ?_ hB2 | with_reducible refine RV.kp ?_ (Kp.refl _ _).drew)); have v2_2 : RV ww2 s4 b4 A4 n4 c4 Y := (by repeat (first | with_reducible exact v2_1 | with_reducible refine RV.below ?_ hB2 | with_reducible refine RV.kp ?_ (Kp.refl _ _).drew)); have v3_2 : RV ww2 s5 b5 A5 n5 c5 gg := (by repeat (first | with_reducible exact v3_1 | with_reducible refine RV.below ?_ hB2 | with_reducible refine RV.kp ?_ (Kp.refl _ _).drew)); have a1_2 : ww2.heap[w.heap.size]? = some (.cells #[.int .i64 s3, .bool b3, .slice A3 n3 c3] 49 (0, 0)) := (by repeat (first | with_reducible exact a1_1 | with_reducible refine blk_below ?_ hB2 | with_reducible refine blk_drew ?_)); have a2_2 : ww2.heap[w.heap.size + 1]? = some (.cells #[.int .i64 s4, .bool b4, .slice A4 n4 c4] 49 (0, 0)) := (by repeat (first | with_reducible exact a2_1 | with_reducible refine blk_below ?_ hB2 | with_reducible refine blk_drew ?_)); have a3_2 : ww2.heap[w.heap.size + 1 + 1]? = some (.cells #[.int .i64 0, .bool false, .slice none 0 0, .int .i64 0, .bool false, .slice none 0 0] 51 (0, 0)) := (by repeat (first | with_reducible exact a3_1 | with_reducible refine blk_below ?_ hB2 | with_reducible refine blk_drew ?_)); have ag_2 : ww2.heap[gs]? = some (.cells #[.int .i64 s5, .bool b5, .slice A5 n5 c5] 49 (0, 0)) := (by repeat (first | with_reducible exact ag_1 | with_reducible refine blk_below ?_ hB2 | with_reducible refine blk_drew ?_)); have t1_2 : RV ww2 s6 b6 A6 n6 c6 1 := (by repeat (first | with_reducible exact t1_1 | with_reducible refine RV.below ?_ hB2 | with_reducible refine RV.kp ?_ (Kp.refl _ _).drew)); have HB_2 : Below w.heap.size w ww2 := (by repeat (first | with_reducible exact HB_1 | with_reducible refine bl_then ?_ hB2 | with_reducible refine bl_drew ?_)); have P2 := cx3 (ag_2)) | (go_at_call 76; refine (rof_calls 1 _ (by omega) (by omega)).mono ?_; rintro e ww1 ⟨⟨s6, b6, A6, n6, c6, rfl, t1_1⟩, hB1⟩; have v1_1 : RV ww1 s3 b3 A3 n3 c3 X := (by repeat (first | with_reducible exact v1_0 | with_reducible refine RV.below ?_ hB1 | with_reducible refine RV.kp ?_ (Kp.refl _ _).drew)); have v2_1 : RV ww1 s4 b4 A4 n4 c4 Y := (by repeat (first | with_reducible exact v2_0 | with_reducible refine RV.below ?_ hB1 | with_reducible refine RV.kp ?_ (Kp.refl _ _).drew)); have v3_1 : RV ww1 s5 b5 A5 n5 c5 gg := (by repeat (first | with_reducible exact v3_0 | with_reducible refine RV.below ?_ hB1 | with_reducible refine RV.kp ?_ (Kp.refl _ _).drew)); have a1_1 : ww1.heap[w.heap.size]? = some (.cells #[.int .i64 s3, .bool b3, .slice A3 n3 c3] 49 (0, 0)) := (by repeat (first | with_reducible exact a1_0 | with_reducible refine blk_below ?_ hB1 | with_reducible refine blk_drew ?_)); have a2_1 : ww1.heap[w.heap.size + 1]? = some (.cells #[.int .i64 s4, .bool b4, .slice A4 n4 c4] 49 (0, 0)) := (by repeat (first | with_reducible exact a2_0 | with_reducible refine blk_below ?_ hB1 | with_reducible refine blk_drew ?_)); have a3_1 : ww1.heap[w.heap.size + 1 + 1]? = some (.cells #[.int .i64 0, .bool false, .slice none 0 0, .int .i64 0, .bool false, .slice none 0 0] 51 (0, 0)) := (by repeat (first | with_reducible exact a3_0 | with_reducible refine blk_below ?_ hB1 | with_reducible refine blk_drew ?_)); have ag_1 : ww1.heap[gs]? = some (.cells #[.int .i64 s5, .bool b5, .slice A5 n5 c5] 49 (0, 0)) := (by repeat (first | with_reducible exact ag_0 | with_reducible refine blk_below ?_ hB1 | with_reducible refine blk_drew ?_)); have HB_1 : Below w.heap.size w ww1 := (by repeat (first | with_reducible exact HB_0 | with_reducible refine bl_then ?_ hB1 | with_reducible refine bl_drew ?_)); have P1 := cx3 (ag_1)) | fail)
      all_goals
        go_wp2
        go_meet
        case rel => exact ⟨_, rfl, HSG, v1_2, v2_2, v3_2, a1_2, a2_2, a3_2, ag_2, HB_2⟩
    case rest =>
      clear h1 h2 hg a1 a2 a3 ag B0
      obtain ⟨bb, rfl, hbb, h1, h2, hg, a1, a2, a3, ag, B0⟩ := hcut
      go_upto_if 19 with (fail)
      go_cut [] (fun wx => ∃ (s3 : Int) (b3 : Bool) (A3 : Option Addr) (n3 c3 : Nat) (s4 : Int) (b4 : Bool) (A4 : Option Addr) (n4 c4 : Nat), RV wx s3 b3 A3 n3 c3 (X.tdiv gg) ∧ RV wx s4 b4 A4 n4 c4 (Y.tdiv gg) ∧ wx.heap[w.heap.size]? = some (.cells #[.int .i64 s3, .bool b3, .slice A3 n3 c3] 49 (0, 0)) ∧ wx.heap[w.heap.size + 1]? = some (.cells #[.int .i64 s4, .bool b4, .slice A4 n4 c4] 49 (0, 0)) ∧ wx.heap[w.heap.size + 1 + 1]? = some (.cells #[.int .i64 0, .bool false, .slice none 0 0, .int .i64 0, .bool false, .slice none 0 0] 51 (0, 0)) ∧ Below w.heap.size w wx)
      case first =>
        cases bb
        · have e1 := hbb.out rfl
          subst e1
          go_wp2
          go_meet
          case rel => exact ⟨s3, b3, A3, n3, c3, s4, b4, A4, n4, c4, by rw [Int.tdiv_one]; exact h1, by rw [Int.tdiv_one]; exact h2, a1, a2, a3, B0⟩
        · clear hbb
          obtain ⟨⟨p1, p2, p3⟩, p4, p5, p6⟩ := bx3 a1
          obtain ⟨⟨q1, q2, q3⟩, q4, q5, q6⟩ := bx3 ag
          go_wp2_with fail
          refine (rover_calls s3 b3 A3 n3 c3 X s5 b5 A5 n5 c5 gg _ h1 hg k sX hgs hk (by omega)).mono ?_
          rintro e w3 ⟨⟨s, b, A, n, c, s', b', A', n', c', rfl, hQ, hR⟩, hB3⟩
          clear p1 p2 p3 p4 p5 p6 q1 q2 q3 q4 q5 q6 hR h1
          replace h2 := h2.below hB3
          replace hg := hg.below hB3
          replace a1 := blk_below a1 hB3
          replace a2 := blk_below a2 hB3
          replace a3 := blk_below a3 hB3
          replace ag := blk_below ag hB3
          replace B0 := bl_then B0 hB3
          clear hB3
          obtain ⟨⟨p1, p2, p3⟩, p4, p5, p6⟩ := bx3 a1
          have kk := kp_set3 a1 (.int .i64 s) (.bool b) (.slice A n c)
          replace hQ := hQ.kp kk
          replace h2 := h2.kp kk
          replace hg := hg.kp kk
          clear kk
          replace B0 := bl_set3 B0 (Nat.le_refl _) (.int .i64 s) (.bool b) (.slice A n c)
          replace a2 := blk_far3 a2 (show w.heap.size + 1 ≠ w.heap.size by omega) (.int .i64 s) (.bool b) (.slice A n c)
          replace a3 := blk_far3 a3 (show w.heap.size + 1 + 1 ≠ w.heap.size by omega) (.int .i64 s) (.bool b) (.slice A n c)
          replace ag := blk_far3 ag (show gs ≠ w.heap.size by omega) (.int .i64 s) (.bool b) (.slice A n c)
          replace a1 := blk_set3 a1 (.int .i64 s) (.bool b) (.slice A n c)
          go_upto_region 6 with (fail)
          generalize ((w3.setCell ⟨w.heap.size, 0, none⟩ (.int .i64 s)).setCell ⟨w.heap.size, 1, none⟩ (.bool b)).setCell ⟨w.heap.size, 2, none⟩ (.slice A n c) = W3 at *
          clear p1 p2 p3 p4 p5 p6
          obtain ⟨⟨p1, p2, p3⟩, p4, p5, p6⟩ := bx3 a2
          obtain ⟨⟨q1, q2, q3⟩, q4, q5, q6⟩ := bx3 ag
          go_wp2_with fail
          refine (rover_calls s4 b4 A4 n4 c4 Y s5 b5 A5 n5 c5 gg _ h2 hg k sY hgs hk (by omega)).mono ?_
          rintro e w4 ⟨⟨u, d, D, m, i, u', d', D', m', i', rfl, hQ2, hR2⟩, hB4⟩
          clear p1 p2 p3 p4 p5 p6 q1 q2 q3 q4 q5 q6 hR2 h2 hg
          replace hQ := hQ.below hB4
          replace a1 := blk_below a1 hB4
          replace a2 := blk_below a2 hB4
          replace a3 := blk_below a3 hB4
          replace B0 := bl_then B0 hB4
          clear hB4
          obtain ⟨⟨p1, p2, p3⟩, p4, p5, p6⟩ := bx3 a2
          have kk := kp_set3 a2 (.int .i64 u) (.bool d) (.slice D m i)
          replace hQ := Lib.hid (hQ.kp kk)
          replace hQ2 := Lib.hid (hQ2.kp kk)
          clear kk
          replace B0 := Lib.hid (bl_set3 B0 (show w.heap.size ≤ w.heap.size + 1 by omega) (.int .i64 u) (.bool d) (.slice D m i))
          replace a1 := Lib.hid (blk_far3 a1 (show w.heap.size ≠ w.heap.size + 1 by omega) (.int .i64 u) (.bool d) (.slice D m i))
          replace a3 := Lib.hid (blk_far3 a3 (show w.heap.size + 1 + 1 ≠ w.heap.size + 1 by omega) (.int .i64 u) (.bool d) (.slice D m i))
          replace a2 := Lib.hid (blk_set3 a2 (.int .i64 u) (.bool d) (.slice D m i))
          go_wp2
          go_meet
          case rel => exact ⟨s, b, A, n, c, u, d, D, m, i, hQ.out, hQ2.out, a1.out, a2.out, a3.out, B0.out⟩
      case rest =>
        clear h1 h2 hg a1 a2 a3 ag B0
        obtain ⟨s3, b3, A3, n3, c3, s4, b4, A4, n4, c4, h1, h2, a1, a2, a3, B0⟩ := hcut
        have hV : RRV _ s3 b3 A3 n3 c3 s4 b4 A4 n4 c4 q := ⟨by rw [← LAW.out.1]; exact h1, by rw [← LAW.out.2]; exact h2⟩
        clear h1 h2
        obtain ⟨⟨p1, p2, p3⟩, p4, p5, p6⟩ := bx3 a1
        obtain ⟨⟨q1, q2, q3⟩, q4, q5, q6⟩ := bx3 a2
        obtain ⟨⟨r1, r2, r3, r4, r5, r6⟩, o1, o2, o3, o4, o5, o6⟩ := bx6 a3
        have hE := Lib.hid (putRR hV a3 B0 (by omega))
        go_wp2
        refine bodyPost_ret (results_cell_row rfl _ _ (w.heap.size + 1 + 1) 51 #[.int .i64 s3, .bool b3, .slice A3 n3 c3, .int .i64 s4, .bool b4, .slice A4 n4 c4] (0, 0) _ rfl hE.out.2.2 Tryz.underlying51 rfl (by kernel_rfl)) rfl ?_
        exact ⟨⟨_, _, _, _, _, _, _, _, _, _, rfl, hE.out.1⟩, hE.out.2.1⟩
end Go.Proofs.YtloplmmnmehkmaaGreat

namespace Go.Proofs.YtloplmmnmehkmaaGreat
open Go.RowKit










set_option maxHeartbeats 4000000 in
set_option maxRecDepth 100000 in
theorem rrwhole_calls (m : Int) (w : World) (h0 : -9223372036854775808 ≤ m) (h1 : m ≤ 9223372036854775807) :
    Calls Tryz.prog 26 #[.int .i64 m] w fun e w' => RRatR e w' (m : Rat) ∧ Below w.heap.size w w' := by
  go_enter Tryz.func26, Tryz.ntmps26
  go_wp2_with fail
  have B0 := bl_alloc (Below.refl w.heap.size w) (.cells #[.int .i64 0, .bool false, .slice none 0 0, .int .i64 0, .bool false, .slice none 0 0] 51)
  have a1 : (w.alloc (.cells #[.int .i64 0, .bool false, .slice none 0 0, .int .i64 0, .bool false, .slice none 0 0] 51)).heap[w.heap.size]? = some (.cells #[.int .i64 0, .bool false, .slice none 0 0, .int .i64 0, .bool false, .slice none 0 0] 51 (0, 0)) := blk_at _ rfl
  generalize w.alloc (.cells #[.int .i64 0, .bool false, .slice none 0 0, .int .i64 0, .bool false, .slice none 0 0] 51) = W0 at *
  refine (rof_calls m _ h0 h1).mono ?_
  rintro e w1 ⟨⟨s1, b1, A1, n1, c1, rfl, g1⟩, hB1⟩
  replace a1 := blk_below a1 hB1
  replace B0 := bl_then B0 hB1
  clear hB1
  go_wp2_with fail
  refine (rof_calls 1 _ (by omega) (by omega)).mono ?_
  rintro e w2 ⟨⟨s1', b1', A1', n1', c1', rfl, g2⟩, hB2⟩
  replace a1 := blk_below a1 hB2
  replace B0 := bl_then B0 hB2
  replace g1 := g1.below hB2
  clear hB2
  have hV : RRV w2 s1 b1 A1 n1 c1 s1' b1' A1' n1' c1' (m : Rat) := ⟨by rw [Rat.num_intCast]; exact g1, by rw [Rat.den_intCast]; exact g2⟩
  have hE := Lib.hid (putRR hV a1 B0 (by omega))
  obtain ⟨⟨o1, o2, o3, o4, o5, o6⟩, o7, o8, o9, o10, o11, o12⟩ := bx6 a1
  go_wp2
  refine bodyPost_ret (results_cell_row rfl _ _ (w.heap.size) 51 #[.int .i64 s1, .bool b1, .slice A1 n1 c1, .int .i64 s1', .bool b1', .slice A1' n1' c1'] (0, 0) _ rfl hE.out.2.2 Tryz.underlying51 rfl (by kernel_rfl)) rfl ?_
  exact ⟨⟨_, _, _, _, _, _, _, _, _, _, rfl, hE.out.1⟩, hE.out.2.1⟩
end Go.Proofs.YtloplmmnmehkmaaGreat

namespace Go.Proofs.YtloplmmnmehkmaaGreat
open Go.RowKit





set_option maxHeartbeats 8000000 in
set_option maxRecDepth 100000 in
theorem rfrom_yy (s1 : Int) (b1 : Bool) (A1 : Option Addr) (n1 c1 : Nat) (s1' : Int) (b1' : Bool) (A1' : Option Addr) (n1' c1' : Nat) (q : Rat) (w : World) (h1 : RRV w s1 b1 A1 n1 c1 s1' b1' A1' n1' c1' q) (hn : -1152921504606846976 ≤ q.num) (hn' : q.num ≤ 1152921504606846976) (hd : (q.den : Int) ≤ 1152921504606846976) :
    Calls Tryz.prog 104 #[.agg #[.int .i64 s1, .bool b1, .slice A1 n1 c1, .int .i64 s1', .bool b1', .slice A1' n1' c1']] w fun e w' => e = .returned (.tuple #[.agg #[.int .i64 q.num, .int .i64 (q.den : Int)], .bool true]) ∧ Below w.heap.size w w' := by
  have hdp := q.den_pos
  generalize hqn : q.num = qn at *
  generalize hqd : (q.den : Int) = qd at *
  have V1 : RV w s1 b1 A1 n1 c1 qn := by rw [← hqn]; exact h1.1
  have V2 : RV w s1' b1' A1' n1' c1' qd := by rw [← hqd]; exact h1.2
  have hqd0 : 0 < qd := by omega
  clear hqn hqd hdp h1
  go_enter Tryz.func104, Tryz.ntmps104
  go_wp2_with fail
  have B0 := bl_alloc (bl_alloc (Below.refl w.heap.size w) (.cells #[.int .i64 s1, .bool b1, .slice A1 n1 c1, .int .i64 s1', .bool b1', .slice A1' n1' c1'] 51)) (.cells #[.int .i64 0, .int .i64 0] 56)
  have a1 : ((w.alloc (.cells #[.int .i64 s1, .bool b1, .slice A1 n1 c1, .int .i64 s1', .bool b1', .slice A1' n1' c1'] 51)).alloc (.cells #[.int .i64 0, .int .i64 0] 56)).heap[w.heap.size]? = some (.cells #[.int .i64 s1, .bool b1, .slice A1 n1 c1, .int .i64 s1', .bool b1', .slice A1' n1' c1'] 51 (0, 0)) := blk_alloc (blk_at _ rfl) _
  have a2 : ((w.alloc (.cells #[.int .i64 s1, .bool b1, .slice A1 n1 c1, .int .i64 s1', .bool b1', .slice A1' n1' c1'] 51)).alloc (.cells #[.int .i64 0, .int .i64 0] 56)).heap[w.heap.size + 1]? = some (.cells #[.int .i64 0, .int .i64 0] 56 (0, 0)) := blk_at _ (by simp)
  replace V1 := V1.below B0
  replace V2 := V2.below B0
  generalize (w.alloc (.cells #[.int .i64 s1, .bool b1, .slice A1 n1 c1, .int .i64 s1', .bool b1', .slice A1' n1' c1'] 51)).alloc (.cells #[.int .i64 0, .int .i64 0] 56) = W0 at *
  refine (small_yes s1 b1 A1 n1 c1 qn _ V1 (by omega) (by omega)).mono ?_
  rintro e w1 ⟨rfl, hB1⟩
  replace a1 := blk_below a1 hB1
  replace a2 := blk_below a2 hB1
  replace V2 := V2.below hB1
  replace B0 := bl_then B0 hB1
  clear hB1 V1
  obtain ⟨⟨p1, p2, p3, p4, p5, p6⟩, p7, p8, p9, p10, p11, p12⟩ := bx6 a1
  go_wp2_with fail
  refine (small_yes s1' b1' A1' n1' c1' qd _ V2 (by omega) (by omega)).mono ?_
  rintro e w2 ⟨rfl, hB2⟩
  replace a2 := blk_below a2 hB2
  replace B0 := bl_then B0 hB2
  clear hB2 V2 p1 p2 p3 p4 p5 p6 p7 p8 p9 p10 p11 p12 a1
  obtain ⟨z1, z2, z3, z4⟩ := bx2 a2
  go_wp2
  refine bodyPost_ret (results_cell_tmp_row rfl _ _ (w.heap.size + 1) 56 #[.int .i64 qn, .int .i64 qd] (0, 0) _ _ rfl (by first | exact a2 | exact blk_set2 a2 _ _) Tryz.underlying56 rfl (by kernel_rfl) rfl) rfl ?_
  exact ⟨rfl, by first | exact B0 | exact bl_set (bl_set B0 (by show w.heap.size ≤ w.heap.size + 1; omega) _) (by show w.heap.size ≤ w.heap.size + 1; omega) _⟩

set_option maxHeartbeats 8000000 in
set_option maxRecDepth 100000 in
theorem rfrom_yn (s1 : Int) (b1 : Bool) (A1 : Option Addr) (n1 c1 : Nat) (s1' : Int) (b1' : Bool) (A1' : Option Addr) (n1' c1' : Nat) (q : Rat) (w : World) (h1 : RRV w s1 b1 A1 n1 c1 s1' b1' A1' n1' c1' q) (hn : -1152921504606846976 ≤ q.num) (hn' : q.num ≤ 1152921504606846976) (hd : 1152921504606846976 < (q.den : Int)) :
    Calls Tryz.prog 104 #[.agg #[.int .i64 s1, .bool b1, .slice A1 n1 c1, .int .i64 s1', .bool b1', .slice A1' n1' c1']] w fun e w' => e = .returned (.tuple #[.agg #[.int .i64 0, .int .i64 0], .bool false]) ∧ Below w.heap.size w w' := by
  have hdp := q.den_pos
  generalize hqn : q.num = qn at *
  generalize hqd : (q.den : Int) = qd at *
  have V1 : RV w s1 b1 A1 n1 c1 qn := by rw [← hqn]; exact h1.1
  have V2 : RV w s1' b1' A1' n1' c1' qd := by rw [← hqd]; exact h1.2
  have hqd0 : 0 < qd := by omega
  clear hqn hqd hdp h1
  go_enter Tryz.func104, Tryz.ntmps104
  go_wp2_with fail
  have B0 := bl_alloc (bl_alloc (Below.refl w.heap.size w) (.cells #[.int .i64 s1, .bool b1, .slice A1 n1 c1, .int .i64 s1', .bool b1', .slice A1' n1' c1'] 51)) (.cells #[.int .i64 0, .int .i64 0] 56)
  have a1 : ((w.alloc (.cells #[.int .i64 s1, .bool b1, .slice A1 n1 c1, .int .i64 s1', .bool b1', .slice A1' n1' c1'] 51)).alloc (.cells #[.int .i64 0, .int .i64 0] 56)).heap[w.heap.size]? = some (.cells #[.int .i64 s1, .bool b1, .slice A1 n1 c1, .int .i64 s1', .bool b1', .slice A1' n1' c1'] 51 (0, 0)) := blk_alloc (blk_at _ rfl) _
  have a2 : ((w.alloc (.cells #[.int .i64 s1, .bool b1, .slice A1 n1 c1, .int .i64 s1', .bool b1', .slice A1' n1' c1'] 51)).alloc (.cells #[.int .i64 0, .int .i64 0] 56)).heap[w.heap.size + 1]? = some (.cells #[.int .i64 0, .int .i64 0] 56 (0, 0)) := blk_at _ (by simp)
  replace V1 := V1.below B0
  replace V2 := V2.below B0
  generalize (w.alloc (.cells #[.int .i64 s1, .bool b1, .slice A1 n1 c1, .int .i64 s1', .bool b1', .slice A1' n1' c1'] 51)).alloc (.cells #[.int .i64 0, .int .i64 0] 56) = W0 at *
  refine (small_yes s1 b1 A1 n1 c1 qn _ V1 (by omega) (by omega)).mono ?_
  rintro e w1 ⟨rfl, hB1⟩
  replace a1 := blk_below a1 hB1
  replace a2 := blk_below a2 hB1
  replace V2 := V2.below hB1
  replace B0 := bl_then B0 hB1
  clear hB1 V1
  obtain ⟨⟨p1, p2, p3, p4, p5, p6⟩, p7, p8, p9, p10, p11, p12⟩ := bx6 a1
  go_wp2_with fail
  refine (small_no s1' b1' A1' n1' c1' qd _ V2 (by omega)).mono ?_
  rintro e w2 ⟨rfl, hB2⟩
  replace a2 := blk_below a2 hB2
  replace B0 := bl_then B0 hB2
  clear hB2 V2 p1 p2 p3 p4 p5 p6 p7 p8 p9 p10 p11 p12 a1
  obtain ⟨z1, z2, z3, z4⟩ := bx2 a2
  go_wp2
  refine bodyPost_ret (results_cell_tmp_row rfl _ _ (w.heap.size + 1) 56 #[.int .i64 0, .int .i64 0] (0, 0) _ _ rfl (by first | exact a2 | exact blk_set2 a2 _ _) Tryz.underlying56 rfl (by kernel_rfl) rfl) rfl ?_
  exact ⟨rfl, by first | exact B0 | exact bl_set (bl_set B0 (by show w.heap.size ≤ w.heap.size + 1; omega) _) (by show w.heap.size ≤ w.heap.size + 1; omega) _⟩

set_option maxHeartbeats 8000000 in
set_option maxRecDepth 100000 in
theorem rfrom_ny (s1 : Int) (b1 : Bool) (A1 : Option Addr) (n1 c1 : Nat) (s1' : Int) (b1' : Bool) (A1' : Option Addr) (n1' c1' : Nat) (q : Rat) (w : World) (h1 : RRV w s1 b1 A1 n1 c1 s1' b1' A1' n1' c1' q) (hn : q.num < -1152921504606846976 ∨ 1152921504606846976 < q.num) (hd : (q.den : Int) ≤ 1152921504606846976) :
    Calls Tryz.prog 104 #[.agg #[.int .i64 s1, .bool b1, .slice A1 n1 c1, .int .i64 s1', .bool b1', .slice A1' n1' c1']] w fun e w' => e = .returned (.tuple #[.agg #[.int .i64 0, .int .i64 0], .bool false]) ∧ Below w.heap.size w w' := by
  have hdp := q.den_pos
  generalize hqn : q.num = qn at *
  generalize hqd : (q.den : Int) = qd at *
  have V1 : RV w s1 b1 A1 n1 c1 qn := by rw [← hqn]; exact h1.1
  have V2 : RV w s1' b1' A1' n1' c1' qd := by rw [← hqd]; exact h1.2
  have hqd0 : 0 < qd := by omega
  clear hqn hqd hdp h1
  go_enter Tryz.func104, Tryz.ntmps104
  go_wp2_with fail
  have B0 := bl_alloc (bl_alloc (Below.refl w.heap.size w) (.cells #[.int .i64 s1, .bool b1, .slice A1 n1 c1, .int .i64 s1', .bool b1', .slice A1' n1' c1'] 51)) (.cells #[.int .i64 0, .int .i64 0] 56)
  have a1 : ((w.alloc (.cells #[.int .i64 s1, .bool b1, .slice A1 n1 c1, .int .i64 s1', .bool b1', .slice A1' n1' c1'] 51)).alloc (.cells #[.int .i64 0, .int .i64 0] 56)).heap[w.heap.size]? = some (.cells #[.int .i64 s1, .bool b1, .slice A1 n1 c1, .int .i64 s1', .bool b1', .slice A1' n1' c1'] 51 (0, 0)) := blk_alloc (blk_at _ rfl) _
  have a2 : ((w.alloc (.cells #[.int .i64 s1, .bool b1, .slice A1 n1 c1, .int .i64 s1', .bool b1', .slice A1' n1' c1'] 51)).alloc (.cells #[.int .i64 0, .int .i64 0] 56)).heap[w.heap.size + 1]? = some (.cells #[.int .i64 0, .int .i64 0] 56 (0, 0)) := blk_at _ (by simp)
  replace V1 := V1.below B0
  replace V2 := V2.below B0
  generalize (w.alloc (.cells #[.int .i64 s1, .bool b1, .slice A1 n1 c1, .int .i64 s1', .bool b1', .slice A1' n1' c1'] 51)).alloc (.cells #[.int .i64 0, .int .i64 0] 56) = W0 at *
  refine (small_no s1 b1 A1 n1 c1 qn _ V1 (by omega)).mono ?_
  rintro e w1 ⟨rfl, hB1⟩
  replace a1 := blk_below a1 hB1
  replace a2 := blk_below a2 hB1
  replace V2 := V2.below hB1
  replace B0 := bl_then B0 hB1
  clear hB1 V1
  obtain ⟨⟨p1, p2, p3, p4, p5, p6⟩, p7, p8, p9, p10, p11, p12⟩ := bx6 a1
  go_wp2_with fail
  refine (small_yes s1' b1' A1' n1' c1' qd _ V2 (by omega) (by omega)).mono ?_
  rintro e w2 ⟨rfl, hB2⟩
  replace a2 := blk_below a2 hB2
  replace B0 := bl_then B0 hB2
  clear hB2 V2 p1 p2 p3 p4 p5 p6 p7 p8 p9 p10 p11 p12 a1
  obtain ⟨z1, z2, z3, z4⟩ := bx2 a2
  go_wp2
  refine bodyPost_ret (results_cell_tmp_row rfl _ _ (w.heap.size + 1) 56 #[.int .i64 0, .int .i64 0] (0, 0) _ _ rfl (by first | exact a2 | exact blk_set2 a2 _ _) Tryz.underlying56 rfl (by kernel_rfl) rfl) rfl ?_
  exact ⟨rfl, by first | exact B0 | exact bl_set (bl_set B0 (by show w.heap.size ≤ w.heap.size + 1; omega) _) (by show w.heap.size ≤ w.heap.size + 1; omega) _⟩

set_option maxHeartbeats 8000000 in
set_option maxRecDepth 100000 in
theorem rfrom_nn (s1 : Int) (b1 : Bool) (A1 : Option Addr) (n1 c1 : Nat) (s1' : Int) (b1' : Bool) (A1' : Option Addr) (n1' c1' : Nat) (q : Rat) (w : World) (h1 : RRV w s1 b1 A1 n1 c1 s1' b1' A1' n1' c1' q) (hn : q.num < -1152921504606846976 ∨ 1152921504606846976 < q.num) (hd : 1152921504606846976 < (q.den : Int)) :
    Calls Tryz.prog 104 #[.agg #[.int .i64 s1, .bool b1, .slice A1 n1 c1, .int .i64 s1', .bool b1', .slice A1' n1' c1']] w fun e w' => e = .returned (.tuple #[.agg #[.int .i64 0, .int .i64 0], .bool false]) ∧ Below w.heap.size w w' := by
  have hdp := q.den_pos
  generalize hqn : q.num = qn at *
  generalize hqd : (q.den : Int) = qd at *
  have V1 : RV w s1 b1 A1 n1 c1 qn := by rw [← hqn]; exact h1.1
  have V2 : RV w s1' b1' A1' n1' c1' qd := by rw [← hqd]; exact h1.2
  have hqd0 : 0 < qd := by omega
  clear hqn hqd hdp h1
  go_enter Tryz.func104, Tryz.ntmps104
  go_wp2_with fail
  have B0 := bl_alloc (bl_alloc (Below.refl w.heap.size w) (.cells #[.int .i64 s1, .bool b1, .slice A1 n1 c1, .int .i64 s1', .bool b1', .slice A1' n1' c1'] 51)) (.cells #[.int .i64 0, .int .i64 0] 56)
  have a1 : ((w.alloc (.cells #[.int .i64 s1, .bool b1, .slice A1 n1 c1, .int .i64 s1', .bool b1', .slice A1' n1' c1'] 51)).alloc (.cells #[.int .i64 0, .int .i64 0] 56)).heap[w.heap.size]? = some (.cells #[.int .i64 s1, .bool b1, .slice A1 n1 c1, .int .i64 s1', .bool b1', .slice A1' n1' c1'] 51 (0, 0)) := blk_alloc (blk_at _ rfl) _
  have a2 : ((w.alloc (.cells #[.int .i64 s1, .bool b1, .slice A1 n1 c1, .int .i64 s1', .bool b1', .slice A1' n1' c1'] 51)).alloc (.cells #[.int .i64 0, .int .i64 0] 56)).heap[w.heap.size + 1]? = some (.cells #[.int .i64 0, .int .i64 0] 56 (0, 0)) := blk_at _ (by simp)
  replace V1 := V1.below B0
  replace V2 := V2.below B0
  generalize (w.alloc (.cells #[.int .i64 s1, .bool b1, .slice A1 n1 c1, .int .i64 s1', .bool b1', .slice A1' n1' c1'] 51)).alloc (.cells #[.int .i64 0, .int .i64 0] 56) = W0 at *
  refine (small_no s1 b1 A1 n1 c1 qn _ V1 (by omega)).mono ?_
  rintro e w1 ⟨rfl, hB1⟩
  replace a1 := blk_below a1 hB1
  replace a2 := blk_below a2 hB1
  replace V2 := V2.below hB1
  replace B0 := bl_then B0 hB1
  clear hB1 V1
  obtain ⟨⟨p1, p2, p3, p4, p5, p6⟩, p7, p8, p9, p10, p11, p12⟩ := bx6 a1
  go_wp2_with fail
  refine (small_no s1' b1' A1' n1' c1' qd _ V2 (by omega)).mono ?_
  rintro e w2 ⟨rfl, hB2⟩
  replace a2 := blk_below a2 hB2
  replace B0 := bl_then B0 hB2
  clear hB2 V2 p1 p2 p3 p4 p5 p6 p7 p8 p9 p10 p11 p12 a1
  obtain ⟨z1, z2, z3, z4⟩ := bx2 a2
  go_wp2
  refine bodyPost_ret (results_cell_tmp_row rfl _ _ (w.heap.size + 1) 56 #[.int .i64 0, .int .i64 0] (0, 0) _ _ rfl (by first | exact a2 | exact blk_set2 a2 _ _) Tryz.underlying56 rfl (by kernel_rfl) rfl) rfl ?_
  exact ⟨rfl, by first | exact B0 | exact bl_set (bl_set B0 (by show w.heap.size ≤ w.heap.size + 1; omega) _) (by show w.heap.size ≤ w.heap.size + 1; omega) _⟩

theorem rfrom_no (s1 : Int) (b1 : Bool) (A1 : Option Addr) (n1 c1 : Nat) (s1' : Int) (b1' : Bool) (A1' : Option Addr) (n1' c1' : Nat) (q : Rat) (w : World) (h1 : RRV w s1 b1 A1 n1 c1 s1' b1' A1' n1' c1' q) (hf : ¬ Fits q) :
    Calls Tryz.prog 104 #[.agg #[.int .i64 s1, .bool b1, .slice A1 n1 c1, .int .i64 s1', .bool b1', .slice A1' n1' c1']] w fun e w' => e = .returned (.tuple #[.agg #[.int .i64 0, .int .i64 0], .bool false]) ∧ Below w.heap.size w w' := by
  by_cases hn : -1152921504606846976 ≤ q.num ∧ q.num ≤ 1152921504606846976
  · by_cases hd : (q.den : Int) ≤ 1152921504606846976
    · exact absurd ⟨hn.1, hn.2, hd⟩ hf
    · exact rfrom_yn s1 b1 A1 n1 c1 s1' b1' A1' n1' c1' q w h1 hn.1 hn.2 (by omega)
  · by_cases hd : (q.den : Int) ≤ 1152921504606846976
    · exact rfrom_ny s1 b1 A1 n1 c1 s1' b1' A1' n1' c1' q w h1 (by omega) hd
    · exact rfrom_nn s1 b1 A1 n1 c1 s1' b1' A1' n1' c1' q w h1 (by omega) (by omega)

end Go.Proofs.YtloplmmnmehkmaaGreat
