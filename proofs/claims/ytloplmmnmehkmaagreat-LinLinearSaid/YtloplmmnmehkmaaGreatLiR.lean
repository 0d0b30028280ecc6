/- reference: rationals. reference: operations on rationals. reference: To, Valid, From, Num, Down. -/
import Derived.Test.YtloplmmnmehkmaaGreatRef9
import Derived.Test.YtloplmmnmehkmaaGreatRat3
import Derived.Test.YtloplmmnmehkmaaGreatNum1
set_option linter.unusedVariables false
set_option linter.unusedSimpArgs false
namespace Go.Proofs.YtloplmmnmehkmaaGreat
open Go.RowKit

/-- A rational of the reference. -/
def RRV (w : World) (s : Int) (b : Bool) (A : Option Addr) (n c : Nat) (s' : Int) (b' : Bool) (A' : Option Addr) (n' c' : Nat) (q : Rat) : Prop := RV w s b A n c q.num ∧ RV w s' b' A' n' c' (q.den : Int)
def RRatR (e : Ending) (w : World) (q : Rat) : Prop := ∃ (s : Int) (b : Bool) (A : Option Addr) (n c : Nat) (s' : Int) (b' : Bool) (A' : Option Addr) (n' c' : Nat), e = .returned (.agg #[.int .i64 s, .bool b, .slice A n c, .int .i64 s', .bool b', .slice A' n' c']) ∧ RRV w s b A n c s' b' A' n' c' q
section
variable {w w' W : World} {s : Int} {b : Bool} {A : Option Addr} {n c : Nat} {s' : Int} {b' : Bool} {A' : Option Addr} {n' c' : Nat} {q : Rat} {g : Nat}
theorem RRV.kp (h : RRV w s b A n c s' b' A' n' c' q) (e : Kp 3 w w') : RRV w' s b A n c s' b' A' n' c' q := ⟨h.1.kp e, h.2.kp e⟩
theorem RRV.below (h : RRV w s b A n c s' b' A' n' c' q) (e : Below w.heap.size w w') : RRV w' s b A n c s' b' A' n' c' q := ⟨h.1.below e, h.2.below e⟩
theorem putRR {a1 a2 a3 a4 a5 a6 : Value} (h : RRV W s b A n c s' b' A' n' c' q) (hb : W.heap[g]? = some (.cells #[a1, a2, a3, a4, a5, a6] 51 (0, 0))) (hB : Below w.heap.size w W) (hg : w.heap.size ≤ g) :
    let W' := (((((W.setCell ⟨g, 0, none⟩ (.int .i64 s)).setCell ⟨g, 1, none⟩ (.bool b)).setCell ⟨g, 2, none⟩ (.slice A n c)).setCell ⟨g, 3, none⟩ (.int .i64 s')).setCell ⟨g, 4, none⟩ (.bool b')).setCell ⟨g, 5, none⟩ (.slice A' n' c')
    RRV W' s b A n c s' b' A' n' c' q ∧ Below w.heap.size w W' ∧ W'.heap[g]? = some (.cells #[.int .i64 s, .bool b, .slice A n c, .int .i64 s', .bool b', .slice A' n' c'] 51 (0, 0)) :=
  ⟨h.kp (kp_set6 hb _ _ _ _ _ _), bl_set6 hB hg _ _ _ _ _ _, blk_set6 hb _ _ _ _ _ _⟩
end
theorem make_law {x y : Int} (hy : y ≠ 0) : (y.sign * x).tdiv (Int.gcd x y) = (Rat.divInt x y).num ∧ (y.natAbs : Int).tdiv (Int.gcd x y) = ((Rat.divInt x y).den : Int) := by
  have h1 := divInt_num (x := x) hy
  have h2 := divInt_den (x := x) hy
  rcases Int.lt_trichotomy y 0 with h | h | h
  · rw [Int.sign_eq_neg_one_of_neg h] at h1 h2 ⊢
    rw [h1, h2]
    have e : (y.natAbs : Int) = -y := by omega
    rw [e]
    simp [Int.neg_tdiv]
  · exact absurd h hy
  · rw [Int.sign_eq_one_of_pos h] at h1 h2 ⊢
    rw [h1, h2]
    have e : (y.natAbs : Int) = y := by omega
    rw [e]
    simp

set_option maxHeartbeats 8000000 in
set_option maxRecDepth 100000 in
theorem rmake_calls (s1 : Int) (b1 : Bool) (A1 : Option Addr) (n1 c1 : Nat) (x : Int) (s2 : Int) (b2 : Bool) (A2 : Option Addr) (n2 c2 : Nat) (y : Int) (w : World) (h1 : RV w s1 b1 A1 n1 c1 x) (h2 : RV w s2 b2 A2 n2 c2 y) (k : Nat) (z1 : Sz k x) (z2 : Sz k y) (hk : k ≤ 20000000000) (hk0 : 1 ≤ k) (hy : y ≠ 0) :
    Calls Tryz.prog 77 #[.agg #[.int .i64 s1, .bool b1, .slice A1 n1 c1], .agg #[.int .i64 s2, .bool b2, .slice A2 n2 c2]] w fun e w' => RRatR e w' (Rat.divInt x y) ∧ Below w.heap.size w w' := by
  have LAW := Lib.hid (make_law (x := x) hy)
  have hgp := gcd_pos (x := x) hy
  have hgs : Sz k (Int.gcd x y : Int) := z2.le (by
    show ((Int.gcd x y : Nat) : Int).natAbs ≤ y.natAbs
    rw [Int.natAbs_natCast]
    exact Nat.gcd_le_right _ (by omega))
  have hgi : Int.gcd (y.sign * x) (y.natAbs : Int) = Int.gcd x y := by
    rcases Int.lt_trichotomy y 0 with h | h | h
    · rw [Int.sign_eq_neg_one_of_neg h]; simp [Int.gcd]
    · exact absurd h hy
    · rw [Int.sign_eq_one_of_pos h]; simp [Int.gcd]
  have HGI := Lib.hid hgi
  clear hgi
  have sX : Sz k (y.sign * x) := z1.le (by
    rw [Int.natAbs_mul]
    have : y.sign.natAbs ≤ 1 := by
      rcases Int.lt_trichotomy y 0 with h | h | h
      · rw [Int.sign_eq_neg_one_of_neg h]; decide
      · rw [h]; decide
      · rw [Int.sign_eq_one_of_pos h]; decide
    exact Nat.le_trans (Nat.mul_le_mul_right _ this) (by omega))
  have sY : Sz k (y.natAbs : Int) := z2.le (by omega)
  have hXneg : y < 0 → -x = y.sign * x ∧ -y = (y.natAbs : Int) := fun h => by rw [Int.sign_eq_neg_one_of_neg h]; omega
  have hXpos : ¬ y < 0 → x = y.sign * x ∧ y = (y.natAbs : Int) := fun h => by rw [Int.sign_eq_one_of_pos (by omega)]; omega
  replace hXneg := Lib.hid hXneg
  replace hXpos := Lib.hid hXpos
  generalize hX : y.sign * x = X at *
  generalize hY : (y.natAbs : Int) = Y at *
  have HY0 : Y ≠ 0 := by omega
  clear hX hY
  generalize hgg : ((Int.gcd x y : Nat) : Int) = gg at *
  have HGG := Lib.hid hgg
  clear hgg
  generalize hq : Rat.divInt x y = q at *
  clear hq
  go_enter Tryz.func77, Tryz.ntmps77
  go_wp2_with fail
  have B0 := bl_alloc (bl_alloc (bl_alloc (Below.refl w.heap.size w) (.cells #[.int .i64 s1, .bool b1, .slice A1 n1 c1] 49)) (.cells #[.int .i64 s2, .bool b2, .slice A2 n2 c2] 49)) (.cells #[.int .i64 0, .bool false, .slice none 0 0, .int .i64 0, .bool false, .slice none 0 0] 51)
  have a1 : (((w.alloc (.cells #[.int .i64 s1, .bool b1, .slice A1 n1 c1] 49)).alloc (.cells #[.int .i64 s2, .bool b2, .slice A2 n2 c2] 49)).alloc (.cells #[.int .i64 0, .bool false, .slice none 0 0, .int .i64 0, .bool false, .slice none 0 0] 51)).heap[w.heap.size]? = some (.cells #[.int .i64 s1, .bool b1, .slice A1 n1 c1] 49 (0, 0)) := blk_alloc (blk_alloc (blk_at _ rfl) _) _
  have a2 : (((w.alloc (.cells #[.int .i64 s1, .bool b1, .slice A1 n1 c1] 49)).alloc (.cells #[.int .i64 s2, .bool b2, .slice A2 n2 c2] 49)).alloc (.cells #[.int .i64 0, .bool false, .slice none 0 0, .int .i64 0, .bool false, .slice none 0 0] 51)).heap[w.heap.size + 1]? = some (.cells #[.int .i64 s2, .bool b2, .slice A2 n2 c2] 49 (0, 0)) := blk_alloc (blk_at _ (by simp)) _
  have a3 : (((w.alloc (.cells #[.int .i64 s1, .bool b1, .slice A1 n1 c1] 49)).alloc (.cells #[.int .i64 s2, .bool b2, .slice A2 n2 c2] 49)).alloc (.cells #[.int .i64 0, .bool false, .slice none 0 0, .int .i64 0, .bool false, .slice none 0 0] 51)).heap[w.heap.size + 1 + 1]? = some (.cells #[.int .i64 0, .bool false, .slice none 0 0, .int .i64 0, .bool false, .slice none 0 0] 51 (0, 0)) := blk_at _ (by simp)
  replace h1 := h1.below B0
  replace h2 := h2.below B0
  generalize ((w.alloc (.cells #[.int .i64 s1, .bool b1, .slice A1 n1 c1] 49)).alloc (.cells #[.int .i64 s2, .bool b2, .slice A2 n2 c2] 49)).alloc (.cells #[.int .i64 0, .bool false, .slice none 0 0, .int .i64 0, .bool false, .slice none 0 0] 51) = W0 at *
  refine (rsign_int_calls s2 b2 A2 n2 c2 y _ h2).mono ?_
  rintro e w1 ⟨rfl, hB1⟩
  replace h1 := h1.below hB1
  replace h2 := h2.below hB1
  replace a1 := blk_below a1 hB1
  replace a2 := blk_below a2 hB1
  replace a3 := blk_below a3 hB1
  replace B0 := bl_then B0 hB1
  clear hB1
  go_upto_if 8 with (fail)
  go_cut [] (fun wx => ∃ (s3 : Int) (b3 : Bool) (A3 : Option Addr) (n3 c3 : Nat) (s4 : Int) (b4 : Bool) (A4 : Option Addr) (n4 c4 : Nat), RV wx s3 b3 A3 n3 c3 X ∧ RV wx s4 b4 A4 n4 c4 Y ∧ wx.heap[w.heap.size]? = some (.cells #[.int .i64 s3, .bool b3, .slice A3 n3 c3] 49 (0, 0)) ∧ wx.heap[w.heap.size + 1]? = some (.cells #[.int .i64 s4, .bool b4, .slice A4 n4 c4] 49 (0, 0)) ∧ wx.heap[w.heap.size + 1 + 1]? = some (.cells #[.int .i64 0, .bool false, .slice none 0 0, .int .i64 0, .bool false, .slice none 0 0] 51 (0, 0)) ∧ Below w.heap.size w wx)
  case first =>
    by_cases hneg : y < 0
    · have hs : y.sign < 0 := Int.sign_neg_iff.2 hneg
      replace hXneg := Lib.hid (hXneg.out hneg)
      generalize y.sign = sg at *
      obtain ⟨⟨p1, p2, p3⟩, p4, p5, p6⟩ := bx3 a1
      obtain ⟨⟨q1, q2, q3⟩, q4, q5, q6⟩ := bx3 a2
      go_wp2_with fail
      go_region_with (first | (go_at_call_of 106 (Value.agg #[.int .i64 s1, .bool b1, .slice A1 n1 c1]); refine (rminus_calls s1 b1 A1 n1 c1 x _ (h1.kp (by first | exact Kp.refl _ _ | exact (Kp.refl _ _).drew))).mono ?_; rintro e w3 ⟨rfl, hBa⟩; have bk1 := blk_below (by first | exact a1 | exact blk_drew a1) hBa; have bk2 := blk_below (by first | exact a2 | exact blk_drew a2) hBa; have bk3 := blk_below (by first | exact a3 | exact blk_drew a3) hBa; have HB1 := bl_then (by first | exact B0 | exact bl_drew B0) hBa; have hIa3 := ((h1.kp (by first | exact Kp.refl _ _ | exact (Kp.refl _ _).drew)).below hBa).neg; have hIb3 := ((h2.kp (by first | exact Kp.refl _ _ | exact (Kp.refl _ _).drew)).below hBa); obtain ⟨⟨r1, r2, r3⟩, r4, r5, r6⟩ := bx3 bk1; obtain ⟨⟨o1, o2, o3⟩, o4, o5, o6⟩ := bx3 bk2) | (go_at_call 106; refine (rminus_calls s2 b2 A2 n2 c2 y _ (by first | exact hIb3 | exact hIb3.kp (Kp.refl _ _).drew)).mono ?_; rintro e w4 ⟨rfl, hBb⟩; have d1 := blk_below (by first | exact bk1 | exact blk_drew bk1) hBb; have d2 := blk_below (by first | exact bk2 | exact blk_drew bk2) hBb; have d3 := blk_below (by first | exact bk3 | exact blk_drew bk3) hBb; have HB2 := bl_then (by first | exact HB1 | exact bl_drew HB1) hBb; have hIa4 := (by first | exact hIa3.below hBb | exact (hIa3.kp (Kp.refl _ _).drew).below hBb : RV w4 (-s1) (decide (0 < n1) && !b1) A1 n1 c1 (-x)); have hIb4 := (by first | exact hIb3.neg.below hBb | exact (hIb3.neg.kp (Kp.refl _ _).drew).below hBb : RV w4 (-s2) (decide (0 < n2) && !b2) A2 n2 c2 (-y)); obtain ⟨⟨t1, t2, t3⟩, t4, t5, t6⟩ := bx3 d1; obtain ⟨⟨u1, u2, u3⟩, u4, u5, u6⟩ := bx3 d2))
      all_goals
        rw [hXneg.out.1] at hIa4
        rw [hXneg.out.2] at hIb4
        have hE := Lib.hid (put3R hIa4 hIb4 d1 d2 d3 HB2 (by omega) (by omega) (by omega) (by omega) (by omega))
        have hE' := Lib.hid (put3Rd hIa4 hIb4 d1 d2 d3 HB2 (by omega) (by omega) (by omega) (by omega) (by omega))
        clear r1 r2 r3 r4 r5 r6 o1 o2 o3 o4 o5 o6 t1 t2 t3 t4 t5 t6 u1 u2 u3 u4 u5 u6
        go_wp2
        go_meet
        case rel => first | (obtain ⟨U1, U2, U3, U4, U5, U6⟩ := hE.out; with_reducible exact ⟨-s1, _, A1, n1, c1, -s2, _, A2, n2, c2, U1, U2, U3, U4, U5, U6⟩) | (obtain ⟨U1, U2, U3, U4, U5, U6⟩ := hE'.out; with_reducible exact ⟨-s1, _, A1, n1, c1, -s2, _, A2, n2, c2, U1, U2, U3, U4, U5, U6⟩)
    · have hs : ¬ y.sign < 0 := fun h => hneg (Int.sign_neg_iff.1 h)
      replace hXpos := hXpos.out (by omega)
      generalize y.sign = sg at *
      rw [hXpos.1] at h1
      rw [hXpos.2] at h2
      clear hXpos
      go_wp2
      go_meet
      case rel => exact ⟨s1, b1, A1, n1, c1, s2, b2, A2, n2, c2, h1, h2, a1, a2, a3, B0⟩
  case rest =>
    clear h1 h2 a1 a2 a3 B0
    obtain ⟨s3, b3, A3, n3, c3, s4, b4, A4, n4, c4, h1, h2, a1, a2, a3, B0⟩ := hcut
    obtain ⟨⟨p1, p2, p3⟩, p4, p5, p6⟩ := bx3 a1
    obtain ⟨⟨q1, q2, q3⟩, q4, q5, q6⟩ := bx3 a2
    go_wp2_with fail
    refine (rigcd_calls s3 b3 A3 n3 c3 X s4 b4 A4 n4 c4 Y _ h1 h2 k sX sY hk).mono ?_
    rintro e w2 ⟨⟨s5, b5, A5, n5, c5, rfl, hg⟩, hB2⟩
    rw [HGI.out, HGG.out] at hg
    replace h1 := h1.below hB2
    replace h2 := h2.below hB2
    replace a1 := blk_below a1 hB2
    replace a2 := blk_below a2 hB2
    replace a3 := blk_below a3 hB2
    replace B0 := bl_then B0 hB2
    clear hB2
    clear p1 p2 p3 p4 p5 p6 q1 q2 q3 q4 q5 q6
    have l3 := blk_lt a3
    have ag : (w2.alloc (.cells #[.int .i64 s5, .bool b5, .slice A5 n5 c5] 49)).heap[w2.heap.size]? = some (.cells #[.int .i64 s5, .bool b5, .slice A5 n5 c5] 49 (0, 0)) := blk_at _ rfl
    replace h1 := h1.kp ((Kp.refl _ _).alloc (.cells #[.int .i64 s5, .bool b5, .slice A5 n5 c5] 49))
    replace h2 := h2.kp ((Kp.refl _ _).alloc (.cells #[.int .i64 s5, .bool b5, .slice A5 n5 c5] 49))
    replace hg := hg.kp ((Kp.refl _ _).alloc (.cells #[.int .i64 s5, .bool b5, .slice A5 n5 c5] 49))
    replace a1 := blk_alloc a1 (.cells #[.int .i64 s5, .bool b5, .slice A5 n5 c5] 49)
    replace a2 := blk_alloc a2 (.cells #[.int .i64 s5, .bool b5, .slice A5 n5 c5] 49)
    replace a3 := blk_alloc a3 (.cells #[.int .i64 s5, .bool b5, .slice A5 n5 c5] 49)
    replace B0 := bl_alloc B0 (.cells #[.int .i64 s5, .bool b5, .slice A5 n5 c5] 49)
    go_upto_region 4 with (fail)
    generalize hgs : w2.heap.size = gs at *
    generalize w2.alloc (.cells #[.int .i64 s5, .bool b5, .slice A5 n5 c5] 49) = W2 at *
    clear hgs
    go_cut [19] (fun t wc => ∃ bb : Bool, t = .bool bb ∧ Hid (bb = false → gg = 1) ∧ RV wc s3 b3 A3 n3 c3 X ∧ RV wc s4 b4 A4 n4 c4 Y ∧ RV wc s5 b5 A5 n5 c5 gg ∧ wc.heap[w.heap.size]? = some (.cells #[.int .i64 s3, .bool b3, .slice A3 n3 c3] 49 (0, 0)) ∧ wc.heap[w.heap.size + 1]? = some (.cells #[.int .i64 s4, .bool b4, .slice A4 n4 c4] 49 (0, 0)) ∧ wc.heap[w.heap.size + 1 + 1]? = some (.cells #[.int .i64 0, .bool false, .slice none 0 0, .int .i64 0, .bool false, .slice none 0 0] 51 (0, 0)) ∧ wc.heap[gs]? = some (.cells #[.int .i64 s5, .bool b5, .slice A5 n5 c5] 49 (0, 0)) ∧ Below w.heap.size w wc)
    case first =>
      obtain ⟨⟨p1, p2, p3⟩, p4, p5, p6⟩ := bx3 ag
      have v1_0 := h1
      have v2_0 := h2
      have v3_0 := hg
      have a1_0 := a1
      have a2_0 := a2
      have a3_0 := a3
      have ag_0 := ag
      have HB_0 := B0
      go_region_held3 (fun W => W.cell? ⟨gs, 0, none⟩ = some (Value.int .i64 s5) ∧ W.cell? ⟨gs, 1, none⟩ = some (Value.bool b5) ∧ W.cell? ⟨gs, 2, none⟩ = some (Value.slice A5 n5 c5)) (first | with_reducible exact P2 | with_reducible exact P1 | with_reducible exact (cx3 (blk_drew ag_0)) | go_keep) (first | (have _hh := HB_1; go_at_call 111; refine (ricmp_calls s5 b5 A5 n5 c5 gg s6 b6 A6 n6 c6 1 _ (by repeat (first | with_reducible exact v3_1 | with_reducible refine RV.kp ?_ (Kp.refl _ _).drew)) (by repeat (first | with_reducible exact t1_1 | with_reducible refine RV.kp ?_ (Kp.refl _ _).drew)) k hgs (show Sz k 1 by unfold Sz; exact Nat.one_lt_two_pow (by omega)) hk).mono ?_; rintro e ww2 ⟨rfl, hB2⟩; have HSG : Hid (((gg - 1).sign != 0) = false → gg = 1) := Lib.hid (fun h => by have h2 : (gg - 1).sign = 0 := (by simpa using h); rw [Int.sign_eq_zero_iff_zero] at h2; omega); generalize (gg - 1).sign = sgg at *; have v1_2 : RV ww2 s3 b3 A3 n3 c3 X := (by repeat (first | with_reducible exact v1_1 | with_reducible refine RV.below ?_ hB2 | with_reducible refine RV.kp ?_ (Kp.refl _ _).drew)); have v2_2 : RV ww2 s4 b4 A4 n4 c4 Y := (by repeat (first | with_reducible exact v2_1 | with_reducible refine RV.below ?_ hB2 | with_reducible refine RV.kp ?_ (Kp.refl _ _).drew)); have v3_2 : RV ww2 s5 b5 A5 n5 c5 gg := (by repeat (first | with_reducible exact v3_1 | with_reducible refine RV.below ?_ hB2 | with_reducible refine RV.kp ?_ (Kp.refl _ _).drew)); have a1_2 : ww2.heap[w.heap.size]? = some (.cells #[.int .i64 s3, .bool b3, .slice A3 n3 c3] 49 (0, 0)) := (by repeat (first | with_reducible exact a1_1 | with_reducible refine blk_below ?_ hB2 | with_reducible refine blk_drew ?_)); have a2_2 : ww2.heap[w.heap.size + 1]? = some (.cells #[.int .i64 s4, .bool b4, .slice A4 n4 c4] 49 (0, 0)) := (by repeat (first | with_reducible exact a2_1 | with_reducible refine blk_below ?_ hB2 | with_reducible refine blk_drew ?_)); have a3_2 : ww2.heap[w.heap.size + 1 + 1]? = some (.cells #[.int .i64 0, .bool false, .slice none 0 0, .int .i64 0, .bool false, .slice none 0 0] 51 (0, 0)) := (by repeat (first | with_reducible exact a3_1 | with_reducible refine blk_below ?_ hB2 | with_reducible refine blk_drew ?_)); have ag_2 : ww2.heap[gs]? = some (.cells #[.int .i64 s5, .bool b5, .slice A5 n5 c5] 49 (0, 0)) := (by repeat (first | with_reducible exact ag_1 | with_reducible refine blk_below ?_ hB2 | with_reducible refine blk_drew ?_)); have t1_2 : RV ww2 s6 b6 A6 n6 c6 1 := (by repeat (first | with_reducible exact t1_1 | with_reducible refine RV.below ?_ hB2 | with_reducible refine RV.kp ?_ (Kp.refl _ _).drew)); have HB_2 : Below w.heap.size w ww2 := (by repeat (first | with_reducible exact HB_1 | with_reducible refine bl_then ?_ hB2 | with_reducible refine bl_drew ?_)); have P2 := cx3 (ag_2)) | (go_at_call 76; refine (rof_calls 1 _ (by omega) (by omega)).mono ?_; rintro e ww1 ⟨⟨s6, b6, A6, n6, c6, rfl, t1_1⟩, hB1⟩; have v1_1 : RV ww1 s3 b3 A3 n3 c3 X := (by repeat (first | with_reducible exact v1_0 | with_reducible refine RV.below ?_ hB1 | with_reducible refine RV.kp ?_ (Kp.refl _ _).drew)); have v2_1 : RV ww1 s4 b4 A4 n4 c4 Y := (by repeat (first | with_reducible exact v2_0 | with_reducible refine RV.below ?_ hB1 | with_reducible refine RV.kp ?_ (Kp.refl _ _).drew)); have v3_1 : RV ww1 s5 b5 A5 n5 c5 gg := (by repeat (first | with_reducible exact v3_0 | with_reducible refine RV.below ?_ hB1 | with_reducible refine RV.kp ?_ (Kp.refl _ _).drew)); have a1_1 : ww1.heap[w.heap.size]? = some (.cells #[.int .i64 s3, .bool b3, .slice A3 n3 c3] 49 (0, 0)) := (by repeat (first | with_reducible exact a1_0 | with_reducible refine blk_below ?_ hB1 | with_reducible refine blk_drew ?_)); have a2_1 : ww1.heap[w.heap.size + 1]? = some (.cells #[.int .i64 s4, .bool b4, .slice A4 n4 c4] 49 (0, 0)) := (by repeat (first | with_reducible exact a2_0 | with_reducible refine blk_below ?_ hB1 | with_reducible refine blk_drew ?_)); have a3_1 : ww1.heap[w.heap.size + 1 + 1]? = some (.cells #[.int .i64 0, .bool false, .slice none 0 0, .int .i64 0, .bool false, .slice none 0 0] 51 (0, 0)) := (by repeat (first | with_reducible exact a3_0 | with_reducible refine blk_below ?_ hB1 | with_reducible refine blk_drew ?_)); have ag_1 : ww1.heap[gs]? = some (.cells #[.int .i64 s5, .bool b5, .slice A5 n5 c5] 49 (0, 0)) := (by repeat (first | with_reducible exact ag_0 | with_reducible refine blk_below ?_ hB1 | with_reducible refine blk_drew ?_)); have HB_1 : Below w.heap.size w ww1 := (by repeat (first | with_reducible exact HB_0 | with_reducible refine bl_then ?_ hB1 | with_reducible refine bl_drew ?_)); have P1 := cx3 (ag_1)) | fail)
      all_goals
        go_wp2
        go_meet
        case rel => exact ⟨_, rfl, HSG, v1_2, v2_2, v3_2, a1_2, a2_2, a3_2, ag_2, HB_2⟩
    case rest =>
      clear h1 h2 hg a1 a2 a3 ag B0
      obtain ⟨bb, rfl, hbb, h1, h2, hg, a1, a2, a3, ag, B0⟩ := hcut
      go_upto_if 19 with (fail)
      go_cut [] (fun wx => ∃ (s3 : Int) (b3 : Bool) (A3 : Option Addr) (n3 c3 : Nat) (s4 : Int) (b4 : Bool) (A4 : Option Addr) (n4 c4 : Nat), RV wx s3 b3 A3 n3 c3 (X.tdiv gg) ∧ RV wx s4 b4 A4 n4 c4 (Y.tdiv gg) ∧ wx.heap[w.heap.size]? = some (.cells #[.int .i64 s3, .bool b3, .slice A3 n3 c3] 49 (0, 0)) ∧ wx.heap[w.heap.size + 1]? = some (.cells #[.int .i64 s4, .bool b4, .slice A4 n4 c4] 49 (0, 0)) ∧ wx.heap[w.heap.size + 1 + 1]? = some (.cells #[.int .i64 0, .bool false, .slice none 0 0, .int .i64 0, .bool false, .slice none 0 0] 51 (0, 0)) ∧ Below w.heap.size w wx)
      case first =>
        cases bb
        · have e1 := hbb.out rfl
          subst e1
          go_wp2
          go_meet
          case rel => exact ⟨s3, b3, A3, n3, c3, s4, b4, A4, n4, c4, by rw [Int.tdiv_one]; exact h1, by rw [Int.tdiv_one]; exact h2, a1, a2, a3, B0⟩
        · clear hbb
          obtain ⟨⟨p1, p2, p3⟩, p4, p5, p6⟩ := bx3 a1
          obtain ⟨⟨q1, q2, q3⟩, q4, q5, q6⟩ := bx3 ag
          go_wp2_with fail
          refine (rover_calls s3 b3 A3 n3 c3 X s5 b5 A5 n5 c5 gg _ h1 hg k sX hgs hk (by omega)).mono ?_
          rintro e w3 ⟨⟨s, b, A, n, c, s', b', A', n', c', rfl, hQ, hR⟩, hB3⟩
          clear p1 p2 p3 p4 p5 p6 q1 q2 q3 q4 q5 q6 hR h1
          replace h2 := h2.below hB3
          replace hg := hg.below hB3
          replace a1 := blk_below a1 hB3
          replace a2 := blk_below a2 hB3
          replace a3 := blk_below a3 hB3
          replace ag := blk_below ag hB3
          replace B0 := bl_then B0 hB3
          clear hB3
          obtain ⟨⟨p1, p2, p3⟩, p4, p5, p6⟩ := bx3 a1
          have kk := kp_set3 a1 (.int .i64 s) (.bool b) (.slice A n c)
          replace hQ := hQ.kp kk
          replace h2 := h2.kp kk
          replace hg := hg.kp kk
          clear kk
          replace B0 := bl_set3 B0 (Nat.le_refl _) (.int .i64 s) (.bool b) (.slice A n c)
          replace a2 := blk_far3 a2 (show w.heap.size + 1 ≠ w.heap.size by omega) (.int .i64 s) (.bool b) (.slice A n c)
          replace a3 := blk_far3 a3 (show w.heap.size + 1 + 1 ≠ w.heap.size by omega) (.int .i64 s) (.bool b) (.slice A n c)
          replace ag := blk_far3 ag (show gs ≠ w.heap.size by omega) (.int .i64 s) (.bool b) (.slice A n c)
          replace a1 := blk_set3 a1 (.int .i64 s) (.bool b) (.slice A n c)
          go_upto_region 6 with (fail)
          generalize ((w3.setCell ⟨w.heap.size, 0, none⟩ (.int .i64 s)).setCell ⟨w.heap.size, 1, none⟩ (.bool b)).setCell ⟨w.heap.size, 2, none⟩ (.slice A n c) = W3 at *
          clear p1 p2 p3 p4 p5 p6
          obtain ⟨⟨p1, p2, p3⟩, p4, p5, p6⟩ := bx3 a2
          obtain ⟨⟨q1, q2, q3⟩, q4, q5, q6⟩ := bx3 ag
          go_wp2_with fail
          refine (rover_calls s4 b4 A4 n4 c4 Y s5 b5 A5 n5 c5 gg _ h2 hg k sY hgs hk (by omega)).mono ?_
          rintro e w4 ⟨⟨u, d, D, m, i, u', d', D', m', i', rfl, hQ2, hR2⟩, hB4⟩
          clear p1 p2 p3 p4 p5 p6 q1 q2 q3 q4 q5 q6 hR2 h2 hg
          replace hQ := hQ.below hB4
          replace a1 := blk_below a1 hB4
          replace a2 := blk_below a2 hB4
          replace a3 := blk_below a3 hB4
          replace B0 := bl_then B0 hB4
          clear hB4
          obtain ⟨⟨p1, p2, p3⟩, p4, p5, p6⟩ := bx3 a2
          have kk := kp_set3 a2 (.int .i64 u) (.bool d) (.slice D m i)
          replace hQ := Lib.hid (hQ.kp kk)
          replace hQ2 := Lib.hid (hQ2.kp kk)
          clear kk
          replace B0 := Lib.hid (bl_set3 B0 (show w.heap.size ≤ w.heap.size + 1 by omega) (.int .i64 u) (.bool d) (.slice D m i))
          replace a1 := Lib.hid (blk_far3 a1 (show w.heap.size ≠ w.heap.size + 1 by omega) (.int .i64 u) (.bool d) (.slice D m i))
          replace a3 := Lib.hid (blk_far3 a3 (show w.heap.size + 1 + 1 ≠ w.heap.size + 1 by omega) (.int .i64 u) (.bool d) (.slice D m i))
          replace a2 := Lib.hid (blk_set3 a2 (.int .i64 u) (.bool d) (.slice D m i))
          go_wp2
          go_meet
          case rel => exact ⟨s, b, A, n, c, u, d, D, m, i, hQ.out, hQ2.out, a1.out, a2.out, a3.out, B0.out⟩
      case rest =>
        clear h1 h2 hg a1 a2 a3 ag B0
        obtain ⟨s3, b3, A3, n3, c3, s4, b4, A4, n4, c4, h1, h2, a1, a2, a3, B0⟩ := hcut
        have hV : RRV _ s3 b3 A3 n3 c3 s4 b4 A4 n4 c4 q := ⟨by rw [← LAW.out.1]; exact h1, by rw [← LAW.out.2]; exact h2⟩
        clear h1 h2
        obtain ⟨⟨p1, p2, p3⟩, p4, p5, p6⟩ := bx3 a1
        obtain ⟨⟨q1, q2, q3⟩, q4, q5, q6⟩ := bx3 a2
        obtain ⟨⟨r1, r2, r3, r4, r5, r6⟩, o1, o2, o3, o4, o5, o6⟩ := bx6 a3
        have hE := Lib.hid (putRR hV a3 B0 (by omega))
        go_wp2
        refine bodyPost_ret (results_cell_row rfl _ _ (w.heap.size + 1 + 1) 51 #[.int .i64 s3, .bool b3, .slice A3 n3 c3, .int .i64 s4, .bool b4, .slice A4 n4 c4] (0, 0) _ rfl hE.out.2.2 Tryz.underlying51 rfl (by kernel_rfl)) rfl ?_
        exact ⟨⟨_, _, _, _, _, _, _, _, _, _, rfl, hE.out.1⟩, hE.out.2.1⟩
end Go.Proofs.YtloplmmnmehkmaaGreat

namespace Go.Proofs.YtloplmmnmehkmaaGreat
open Go.RowKit


theorem szr_neg {k : Nat} {q : Rat} (h : SzR k q) : SzR k (-q) := ⟨by rw [Rat.neg_num]; exact h.1.neg, by rw [Rat.neg_den]; exact h.2⟩

set_option maxHeartbeats 8000000 in
set_option maxRecDepth 100000 in
theorem rrplus_calls (s1 : Int) (b1 : Bool) (A1 : Option Addr) (n1 c1 : Nat) (s1' : Int) (b1' : Bool) (A1' : Option Addr) (n1' c1' : Nat) (q : Rat) (s2 : Int) (b2 : Bool) (A2 : Option Addr) (n2 c2 : Nat) (s2' : Int) (b2' : Bool) (A2' : Option Addr) (n2' c2' : Nat) (r : Rat) (w : World) (h1 : RRV w s1 b1 A1 n1 c1 s1' b1' A1' n1' c1' q) (h2 : RRV w s2 b2 A2 n2 c2 s2' b2' A2' n2' c2' r) (k : Nat) (z1 : SzR k q) (z2 : SzR k r) (hk : k ≤ 9000000000) :
    Calls Tryz.prog 27 #[.agg #[.int .i64 s1, .bool b1, .slice A1 n1 c1, .int .i64 s1', .bool b1', .slice A1' n1' c1'], .agg #[.int .i64 s2, .bool b2, .slice A2 n2 c2, .int .i64 s2', .bool b2', .slice A2' n2' c2']] w fun e w' => RRatR e w' (q + r) ∧ Below w.heap.size w w' := by
  have dq := q.den_pos
  have dr := r.den_pos
  rw [rat_add_eq q r]
  go_enter Tryz.func27, Tryz.ntmps27
  go_wp2_with fail
  have B0 := bl_alloc (bl_alloc (bl_alloc (Below.refl w.heap.size w) (.cells #[.int .i64 s1, .bool b1, .slice A1 n1 c1, .int .i64 s1', .bool b1', .slice A1' n1' c1'] 51)) (.cells #[.int .i64 s2, .bool b2, .slice A2 n2 c2, .int .i64 s2', .bool b2', .slice A2' n2' c2'] 51)) (.cells #[.int .i64 0, .bool false, .slice none 0 0, .int .i64 0, .bool false, .slice none 0 0] 51)
  have a1 : (((w.alloc (.cells #[.int .i64 s1, .bool b1, .slice A1 n1 c1, .int .i64 s1', .bool b1', .slice A1' n1' c1'] 51)).alloc (.cells #[.int .i64 s2, .bool b2, .slice A2 n2 c2, .int .i64 s2', .bool b2', .slice A2' n2' c2'] 51)).alloc (.cells #[.int .i64 0, .bool false, .slice none 0 0, .int .i64 0, .bool false, .slice none 0 0] 51)).heap[w.heap.size]? = some (.cells #[.int .i64 s1, .bool b1, .slice A1 n1 c1, .int .i64 s1', .bool b1', .slice A1' n1' c1'] 51 (0, 0)) := blk_alloc (blk_alloc (blk_at _ rfl) _) _
  have a2 : (((w.alloc (.cells #[.int .i64 s1, .bool b1, .slice A1 n1 c1, .int .i64 s1', .bool b1', .slice A1' n1' c1'] 51)).alloc (.cells #[.int .i64 s2, .bool b2, .slice A2 n2 c2, .int .i64 s2', .bool b2', .slice A2' n2' c2'] 51)).alloc (.cells #[.int .i64 0, .bool false, .slice none 0 0, .int .i64 0, .bool false, .slice none 0 0] 51)).heap[w.heap.size + 1]? = some (.cells #[.int .i64 s2, .bool b2, .slice A2 n2 c2, .int .i64 s2', .bool b2', .slice A2' n2' c2'] 51 (0, 0)) := blk_alloc (blk_at _ (by simp)) _
  have a3 : (((w.alloc (.cells #[.int .i64 s1, .bool b1, .slice A1 n1 c1, .int .i64 s1', .bool b1', .slice A1' n1' c1'] 51)).alloc (.cells #[.int .i64 s2, .bool b2, .slice A2 n2 c2, .int .i64 s2', .bool b2', .slice A2' n2' c2'] 51)).alloc (.cells #[.int .i64 0, .bool false, .slice none 0 0, .int .i64 0, .bool false, .slice none 0 0] 51)).heap[w.heap.size + 1 + 1]? = some (.cells #[.int .i64 0, .bool false, .slice none 0 0, .int .i64 0, .bool false, .slice none 0 0] 51 (0, 0)) := blk_at _ (by simp)
  replace h1 := h1.below B0
  replace h2 := h2.below B0
  generalize ((w.alloc (.cells #[.int .i64 s1, .bool b1, .slice A1 n1 c1, .int .i64 s1', .bool b1', .slice A1' n1' c1'] 51)).alloc (.cells #[.int .i64 s2, .bool b2, .slice A2 n2 c2, .int .i64 s2', .bool b2', .slice A2' n2' c2'] 51)).alloc (.cells #[.int .i64 0, .bool false, .slice none 0 0, .int .i64 0, .bool false, .slice none 0 0] 51) = W0 at *
  have N13 := Lib.hid (show w.heap.size ≠ w.heap.size + 1 + 1 by omega)
  have N23 := Lib.hid (show w.heap.size + 1 ≠ w.heap.size + 1 + 1 by omega)
  have v1_0 := h1
  have v2_0 := h2
  have a1_0 := a1
  have a2_0 := a2
  have a3_0 := a3
  have HB_0 := B0
  obtain ⟨⟨p1, p2, p3, p4, p5, p6⟩, p7, p8, p9, p10, p11, p12⟩ := bx6 a1
  obtain ⟨⟨q1, q2, q3, q4, q5, q6⟩, q7, q8, q9, q10, q11, q12⟩ := bx6 a2
  go_region_held3 (fun W => W.cell? ⟨w.heap.size, 0, none⟩ = some (Value.int .i64 s1) ∧ W.cell? ⟨w.heap.size, 1, none⟩ = some (Value.bool b1) ∧ W.cell? ⟨w.heap.size, 2, none⟩ = some (Value.slice A1 n1 c1) ∧ W.cell? ⟨w.heap.size, 3, none⟩ = some (Value.int .i64 s1') ∧ W.cell? ⟨w.heap.size, 4, none⟩ = some (Value.bool b1') ∧ W.cell? ⟨w.heap.size, 5, none⟩ = some (Value.slice A1' n1' c1') ∧ W.cell? ⟨w.heap.size + 1, 0, none⟩ = some (Value.int .i64 s2) ∧ W.cell? ⟨w.heap.size + 1, 1, none⟩ = some (Value.bool b2) ∧ W.cell? ⟨w.heap.size + 1, 2, none⟩ = some (Value.slice A2 n2 c2) ∧ W.cell? ⟨w.heap.size + 1, 3, none⟩ = some (Value.int .i64 s2') ∧ W.cell? ⟨w.heap.size + 1, 4, none⟩ = some (Value.bool b2') ∧ W.cell? ⟨w.heap.size + 1, 5, none⟩ = some (Value.slice A2' n2' c2')) (first | with_reducible exact P5 | with_reducible exact P4 | with_reducible exact P3 | with_reducible exact P2 | with_reducible exact P1 | with_reducible exact (j6 (cx6 (blk_drew a1_0)) (cx6 (blk_drew a2_0))) | with_reducible exact (j6 (cx6 (blk_far6 (a1_5) N13.out _ _ _ _ _ _)) (cx6 (blk_far6 (a2_5) N23.out _ _ _ _ _ _))) | go_keep) (first | (have _hh := HB_4; go_at_call 77; refine (rmake_calls sc bc Ac nc cc (q.num * (r.den : Int) + r.num * (q.den : Int)) sd bd Ad nd cd ((q.den : Int) * (r.den : Int)) _ (by repeat (first | with_reducible exact tc_4 | with_reducible refine RV.kp ?_ (Kp.refl _ _).drew)) (by repeat (first | with_reducible exact td_4 | with_reducible refine RV.kp ?_ (Kp.refl _ _).drew)) (k + k + 1) ((z1.1.mul z2.2).add (z2.1.mul z1.2)) ((z1.2.mul z2.2).mono (by omega)) (by omega) (by omega) (Int.mul_ne_zero (by omega) (by omega))).mono ?_; rintro e ww5 ⟨⟨sR, bR, AR, nR, cR, sR', bR', AR', nR', cR', rfl, tR⟩, hB5⟩; have v1_5 : RRV ww5 s1 b1 A1 n1 c1 s1' b1' A1' n1' c1' q := (by repeat (first | with_reducible exact v1_4 | with_reducible refine RRV.below ?_ hB5 | with_reducible refine RRV.kp ?_ (Kp.refl _ _).drew)); have v2_5 : RRV ww5 s2 b2 A2 n2 c2 s2' b2' A2' n2' c2' r := (by repeat (first | with_reducible exact v2_4 | with_reducible refine RRV.below ?_ hB5 | with_reducible refine RRV.kp ?_ (Kp.refl _ _).drew)); have a1_5 : ww5.heap[w.heap.size]? = some (.cells #[.int .i64 s1, .bool b1, .slice A1 n1 c1, .int .i64 s1', .bool b1', .slice A1' n1' c1'] 51 (0, 0)) := (by repeat (first | with_reducible exact a1_4 | with_reducible refine blk_below ?_ hB5 | with_reducible refine blk_drew ?_)); have a2_5 : ww5.heap[w.heap.size + 1]? = some (.cells #[.int .i64 s2, .bool b2, .slice A2 n2 c2, .int .i64 s2', .bool b2', .slice A2' n2' c2'] 51 (0, 0)) := (by repeat (first | with_reducible exact a2_4 | with_reducible refine blk_below ?_ hB5 | with_reducible refine blk_drew ?_)); have a3_5 : ww5.heap[w.heap.size + 1 + 1]? = some (.cells #[.int .i64 0, .bool false, .slice none 0 0, .int .i64 0, .bool false, .slice none 0 0] 51 (0, 0)) := (by repeat (first | with_reducible exact a3_4 | with_reducible refine blk_below ?_ hB5 | with_reducible refine blk_drew ?_)); have ta_5 : RV ww5 sa ba Aa na ca (q.num * (r.den : Int)) := (by repeat (first | with_reducible exact ta_4 | with_reducible refine RV.below ?_ hB5 | with_reducible refine RV.kp ?_ (Kp.refl _ _).drew)); have tb_5 : RV ww5 sb bb Ab nb cb (r.num * (q.den : Int)) := (by repeat (first | with_reducible exact tb_4 | with_reducible refine RV.below ?_ hB5 | with_reducible refine RV.kp ?_ (Kp.refl _ _).drew)); have tc_5 : RV ww5 sc bc Ac nc cc (q.num * (r.den : Int) + r.num * (q.den : Int)) := (by repeat (first | with_reducible exact tc_4 | with_reducible refine RV.below ?_ hB5 | with_reducible refine RV.kp ?_ (Kp.refl _ _).drew)); have td_5 : RV ww5 sd bd Ad nd cd ((q.den : Int) * (r.den : Int)) := (by repeat (first | with_reducible exact td_4 | with_reducible refine RV.below ?_ hB5 | with_reducible refine RV.kp ?_ (Kp.refl _ _).drew)); have HB_5 : Below w.heap.size w ww5 := (by repeat (first | with_reducible exact HB_4 | with_reducible refine bl_then ?_ hB5 | with_reducible refine bl_drew ?_)); have P5 := j6 (cx6 (a1_5)) (cx6 (a2_5)); have hE := Lib.hid (putRR tR a3_5 HB_5 (by omega)); obtain ⟨⟨o1, o2, o3, o4, o5, o6⟩, o7, o8, o9, o10, o11, o12⟩ := bx6 a3_5) | (have _hh := HB_3; go_at_call_of 78 (Value.agg #[.int .i64 s1', .bool b1', .slice A1' n1' c1']); refine (rtimes_calls s1' b1' A1' n1' c1' (q.den : Int) s2' b2' A2' n2' c2' (r.den : Int) _ ((by repeat (first | with_reducible exact v1_3 | with_reducible refine RRV.kp ?_ (Kp.refl _ _).drew)) : RRV _ s1 b1 A1 n1 c1 s1' b1' A1' n1' c1' q).2 ((by repeat (first | with_reducible exact v2_3 | with_reducible refine RRV.kp ?_ (Kp.refl _ _).drew)) : RRV _ s2 b2 A2 n2 c2 s2' b2' A2' n2' c2' r).2 k z1.2 z2.2 (by omega)).mono ?_; rintro e ww4 ⟨⟨sd, bd, Ad, nd, cd, rfl, td_4⟩, hB4⟩; have v1_4 : RRV ww4 s1 b1 A1 n1 c1 s1' b1' A1' n1' c1' q := (by repeat (first | with_reducible exact v1_3 | with_reducible refine RRV.below ?_ hB4 | with_reducible refine RRV.kp ?_ (Kp.refl _ _).drew)); have v2_4 : RRV ww4 s2 b2 A2 n2 c2 s2' b2' A2' n2' c2' r := (by repeat (first | with_reducible exact v2_3 | with_reducible refine RRV.below ?_ hB4 | with_reducible refine RRV.kp ?_ (Kp.refl _ _).drew)); have a1_4 : ww4.heap[w.heap.size]? = some (.cells #[.int .i64 s1, .bool b1, .slice A1 n1 c1, .int .i64 s1', .bool b1', .slice A1' n1' c1'] 51 (0, 0)) := (by repeat (first | with_reducible exact a1_3 | with_reducible refine blk_below ?_ hB4 | with_reducible refine blk_drew ?_)); have a2_4 : ww4.heap[w.heap.size + 1]? = some (.cells #[.int .i64 s2, .bool b2, .slice A2 n2 c2, .int .i64 s2', .bool b2', .slice A2' n2' c2'] 51 (0, 0)) := (by repeat (first | with_reducible exact a2_3 | with_reducible refine blk_below ?_ hB4 | with_reducible refine blk_drew ?_)); have a3_4 : ww4.heap[w.heap.size + 1 + 1]? = some (.cells #[.int .i64 0, .bool false, .slice none 0 0, .int .i64 0, .bool false, .slice none 0 0] 51 (0, 0)) := (by repeat (first | with_reducible exact a3_3 | with_reducible refine blk_below ?_ hB4 | with_reducible refine blk_drew ?_)); have ta_4 : RV ww4 sa ba Aa na ca (q.num * (r.den : Int)) := (by repeat (first | with_reducible exact ta_3 | with_reducible refine RV.below ?_ hB4 | with_reducible refine RV.kp ?_ (Kp.refl _ _).drew)); have tb_4 : RV ww4 sb bb Ab nb cb (r.num * (q.den : Int)) := (by repeat (first | with_reducible exact tb_3 | with_reducible refine RV.below ?_ hB4 | with_reducible refine RV.kp ?_ (Kp.refl _ _).drew)); have tc_4 : RV ww4 sc bc Ac nc cc (q.num * (r.den : Int) + r.num * (q.den : Int)) := (by repeat (first | with_reducible exact tc_3 | with_reducible refine RV.below ?_ hB4 | with_reducible refine RV.kp ?_ (Kp.refl _ _).drew)); have HB_4 : Below w.heap.size w ww4 := (by repeat (first | with_reducible exact HB_3 | with_reducible refine bl_then ?_ hB4 | with_reducible refine bl_drew ?_)); have P4 := j6 (cx6 (a1_4)) (cx6 (a2_4))) | (have _hh := HB_2; go_at_call 79; refine (rplus_calls sa ba Aa na ca (q.num * (r.den : Int)) sb bb Ab nb cb (r.num * (q.den : Int)) _ (by repeat (first | with_reducible exact ta_2 | with_reducible refine RV.kp ?_ (Kp.refl _ _).drew)) (by repeat (first | with_reducible exact tb_2 | with_reducible refine RV.kp ?_ (Kp.refl _ _).drew)) (k + k) (z1.1.mul z2.2) (z2.1.mul z1.2) (by omega)).mono ?_; rintro e ww3 ⟨⟨sc, bc, Ac, nc, cc, rfl, tc_3⟩, hB3⟩; have v1_3 : RRV ww3 s1 b1 A1 n1 c1 s1' b1' A1' n1' c1' q := (by repeat (first | with_reducible exact v1_2 | with_reducible refine RRV.below ?_ hB3 | with_reducible refine RRV.kp ?_ (Kp.refl _ _).drew)); have v2_3 : RRV ww3 s2 b2 A2 n2 c2 s2' b2' A2' n2' c2' r := (by repeat (first | with_reducible exact v2_2 | with_reducible refine RRV.below ?_ hB3 | with_reducible refine RRV.kp ?_ (Kp.refl _ _).drew)); have a1_3 : ww3.heap[w.heap.size]? = some (.cells #[.int .i64 s1, .bool b1, .slice A1 n1 c1, .int .i64 s1', .bool b1', .slice A1' n1' c1'] 51 (0, 0)) := (by repeat (first | with_reducible exact a1_2 | with_reducible refine blk_below ?_ hB3 | with_reducible refine blk_drew ?_)); have a2_3 : ww3.heap[w.heap.size + 1]? = some (.cells #[.int .i64 s2, .bool b2, .slice A2 n2 c2, .int .i64 s2', .bool b2', .slice A2' n2' c2'] 51 (0, 0)) := (by repeat (first | with_reducible exact a2_2 | with_reducible refine blk_below ?_ hB3 | with_reducible refine blk_drew ?_)); have a3_3 : ww3.heap[w.heap.size + 1 + 1]? = some (.cells #[.int .i64 0, .bool false, .slice none 0 0, .int .i64 0, .bool false, .slice none 0 0] 51 (0, 0)) := (by repeat (first | with_reducible exact a3_2 | with_reducible refine blk_below ?_ hB3 | with_reducible refine blk_drew ?_)); have ta_3 : RV ww3 sa ba Aa na ca (q.num * (r.den : Int)) := (by repeat (first | with_reducible exact ta_2 | with_reducible refine RV.below ?_ hB3 | with_reducible refine RV.kp ?_ (Kp.refl _ _).drew)); have tb_3 : RV ww3 sb bb Ab nb cb (r.num * (q.den : Int)) := (by repeat (first | with_reducible exact tb_2 | with_reducible refine RV.below ?_ hB3 | with_reducible refine RV.kp ?_ (Kp.refl _ _).drew)); have HB_3 : Below w.heap.size w ww3 := (by repeat (first | with_reducible exact HB_2 | with_reducible refine bl_then ?_ hB3 | with_reducible refine bl_drew ?_)); have P3 := j6 (cx6 (a1_3)) (cx6 (a2_3))) | (have _hh := HB_1; go_at_call_of 78 (Value.agg #[.int .i64 s2, .bool b2, .slice A2 n2 c2]); refine (rtimes_calls s2 b2 A2 n2 c2 r.num s1' b1' A1' n1' c1' (q.den : Int) _ ((by repeat (first | with_reducible exact v2_1 | with_reducible refine RRV.kp ?_ (Kp.refl _ _).drew)) : RRV _ s2 b2 A2 n2 c2 s2' b2' A2' n2' c2' r).1 ((by repeat (first | with_reducible exact v1_1 | with_reducible refine RRV.kp ?_ (Kp.refl _ _).drew)) : RRV _ s1 b1 A1 n1 c1 s1' b1' A1' n1' c1' q).2 k z2.1 z1.2 (by omega)).mono ?_; rintro e ww2 ⟨⟨sb, bb, Ab, nb, cb, rfl, tb_2⟩, hB2⟩; have v1_2 : RRV ww2 s1 b1 A1 n1 c1 s1' b1' A1' n1' c1' q := (by repeat (first | with_reducible exact v1_1 | with_reducible refine RRV.below ?_ hB2 | with_reducible refine RRV.kp ?_ (Kp.refl _ _).drew)); have v2_2 : RRV ww2 s2 b2 A2 n2 c2 s2' b2' A2' n2' c2' r := (by repeat (first | with_reducible exact v2_1 | with_reducible refine RRV.below ?_ hB2 | with_reducible refine RRV.kp ?_ (Kp.refl _ _).drew)); have a1_2 : ww2.heap[w.heap.size]? = some (.cells #[.int .i64 s1, .bool b1, .slice A1 n1 c1, .int .i64 s1', .bool b1', .slice A1' n1' c1'] 51 (0, 0)) := (by repeat (first | with_reducible exact a1_1 | with_reducible refine blk_below ?_ hB2 | with_reducible refine blk_drew ?_)); have a2_2 : ww2.heap[w.heap.size + 1]? = some (.cells #[.int .i64 s2, .bool b2, .slice A2 n2 c2, .int .i64 s2', .bool b2', .slice A2' n2' c2'] 51 (0, 0)) := (by repeat (first | with_reducible exact a2_1 | with_reducible refine blk_below ?_ hB2 | with_reducible refine blk_drew ?_)); have a3_2 : ww2.heap[w.heap.size + 1 + 1]? = some (.cells #[.int .i64 0, .bool false, .slice none 0 0, .int .i64 0, .bool false, .slice none 0 0] 51 (0, 0)) := (by repeat (first | with_reducible exact a3_1 | with_reducible refine blk_below ?_ hB2 | with_reducible refine blk_drew ?_)); have ta_2 : RV ww2 sa ba Aa na ca (q.num * (r.den : Int)) := (by repeat (first | with_reducible exact ta_1 | with_reducible refine RV.below ?_ hB2 | with_reducible refine RV.kp ?_ (Kp.refl _ _).drew)); have HB_2 : Below w.heap.size w ww2 := (by repeat (first | with_reducible exact HB_1 | with_reducible refine bl_then ?_ hB2 | with_reducible refine bl_drew ?_)); have P2 := j6 (cx6 (a1_2)) (cx6 (a2_2))) | (go_at_call_of 78 (Value.agg #[.int .i64 s1, .bool b1, .slice A1 n1 c1]); refine (rtimes_calls s1 b1 A1 n1 c1 q.num s2' b2' A2' n2' c2' (r.den : Int) _ ((by repeat (first | with_reducible exact v1_0 | with_reducible refine RRV.kp ?_ (Kp.refl _ _).drew)) : RRV _ s1 b1 A1 n1 c1 s1' b1' A1' n1' c1' q).1 ((by repeat (first | with_reducible exact v2_0 | with_reducible refine RRV.kp ?_ (Kp.refl _ _).drew)) : RRV _ s2 b2 A2 n2 c2 s2' b2' A2' n2' c2' r).2 k z1.1 z2.2 (by omega)).mono ?_; rintro e ww1 ⟨⟨sa, ba, Aa, na, ca, rfl, ta_1⟩, hB1⟩; have v1_1 : RRV ww1 s1 b1 A1 n1 c1 s1' b1' A1' n1' c1' q := (by repeat (first | with_reducible exact v1_0 | with_reducible refine RRV.below ?_ hB1 | with_reducible refine RRV.kp ?_ (Kp.refl _ _).drew)); have v2_1 : RRV ww1 s2 b2 A2 n2 c2 s2' b2' A2' n2' c2' r := (by repeat (first | with_reducible exact v2_0 | with_reducible refine RRV.below ?_ hB1 | with_reducible refine RRV.kp ?_ (Kp.refl _ _).drew)); have a1_1 : ww1.heap[w.heap.size]? = some (.cells #[.int .i64 s1, .bool b1, .slice A1 n1 c1, .int .i64 s1', .bool b1', .slice A1' n1' c1'] 51 (0, 0)) := (by repeat (first | with_reducible exact a1_0 | with_reducible refine blk_below ?_ hB1 | with_reducible refine blk_drew ?_)); have a2_1 : ww1.heap[w.heap.size + 1]? = some (.cells #[.int .i64 s2, .bool b2, .slice A2 n2 c2, .int .i64 s2', .bool b2', .slice A2' n2' c2'] 51 (0, 0)) := (by repeat (first | with_reducible exact a2_0 | with_reducible refine blk_below ?_ hB1 | with_reducible refine blk_drew ?_)); have a3_1 : ww1.heap[w.heap.size + 1 + 1]? = some (.cells #[.int .i64 0, .bool false, .slice none 0 0, .int .i64 0, .bool false, .slice none 0 0] 51 (0, 0)) := (by repeat (first | with_reducible exact a3_0 | with_reducible refine blk_below ?_ hB1 | with_reducible refine blk_drew ?_)); have HB_1 : Below w.heap.size w ww1 := (by repeat (first | with_reducible exact HB_0 | with_reducible refine bl_then ?_ hB1 | with_reducible refine bl_drew ?_)); have P1 := j6 (cx6 (a1_1)) (cx6 (a2_1))) | fail)
  all_goals
    go_wp2
    refine bodyPost_ret (results_cell_row rfl _ _ (w.heap.size + 1 + 1) 51 #[.int .i64 sR, .bool bR, .slice AR nR cR, .int .i64 sR', .bool bR', .slice AR' nR' cR'] (0, 0) _ rfl hE.out.2.2 Tryz.underlying51 rfl (by kernel_rfl)) rfl ?_
    exact ⟨⟨_, _, _, _, _, _, _, _, _, _, rfl, hE.out.1⟩, hE.out.2.1⟩

set_option maxHeartbeats 8000000 in
set_option maxRecDepth 100000 in
theorem rrtimes_calls (s1 : Int) (b1 : Bool) (A1 : Option Addr) (n1 c1 : Nat) (s1' : Int) (b1' : Bool) (A1' : Option Addr) (n1' c1' : Nat) (q : Rat) (s2 : Int) (b2 : Bool) (A2 : Option Addr) (n2 c2 : Nat) (s2' : Int) (b2' : Bool) (A2' : Option Addr) (n2' c2' : Nat) (r : Rat) (w : World) (h1 : RRV w s1 b1 A1 n1 c1 s1' b1' A1' n1' c1' q) (h2 : RRV w s2 b2 A2 n2 c2 s2' b2' A2' n2' c2' r) (k : Nat) (z1 : SzR k q) (z2 : SzR k r) (hk : k ≤ 9000000000) :
    Calls Tryz.prog 29 #[.agg #[.int .i64 s1, .bool b1, .slice A1 n1 c1, .int .i64 s1', .bool b1', .slice A1' n1' c1'], .agg #[.int .i64 s2, .bool b2, .slice A2 n2 c2, .int .i64 s2', .bool b2', .slice A2' n2' c2']] w fun e w' => RRatR e w' (q * r) ∧ Below w.heap.size w w' := by
  have dq := q.den_pos
  have dr := r.den_pos
  rw [rat_mul_eq q r]
  go_enter Tryz.func29, Tryz.ntmps29
  go_wp2_with fail
  have B0 := bl_alloc (bl_alloc (bl_alloc (Below.refl w.heap.size w) (.cells #[.int .i64 s1, .bool b1, .slice A1 n1 c1, .int .i64 s1', .bool b1', .slice A1' n1' c1'] 51)) (.cells #[.int .i64 s2, .bool b2, .slice A2 n2 c2, .int .i64 s2', .bool b2', .slice A2' n2' c2'] 51)) (.cells #[.int .i64 0, .bool false, .slice none 0 0, .int .i64 0, .bool false, .slice none 0 0] 51)
  have a1 : (((w.alloc (.cells #[.int .i64 s1, .bool b1, .slice A1 n1 c1, .int .i64 s1', .bool b1', .slice A1' n1' c1'] 51)).alloc (.cells #[.int .i64 s2, .bool b2, .slice A2 n2 c2, .int .i64 s2', .bool b2', .slice A2' n2' c2'] 51)).alloc (.cells #[.int .i64 0, .bool false, .slice none 0 0, .int .i64 0, .bool false, .slice none 0 0] 51)).heap[w.heap.size]? = some (.cells #[.int .i64 s1, .bool b1, .slice A1 n1 c1, .int .i64 s1', .bool b1', .slice A1' n1' c1'] 51 (0, 0)) := blk_alloc (blk_alloc (blk_at _ rfl) _) _
  have a2 : (((w.alloc (.cells #[.int .i64 s1, .bool b1, .slice A1 n1 c1, .int .i64 s1', .bool b1', .slice A1' n1' c1'] 51)).alloc (.cells #[.int .i64 s2, .bool b2, .slice A2 n2 c2, .int .i64 s2', .bool b2', .slice A2' n2' c2'] 51)).alloc (.cells #[.int .i64 0, .bool false, .slice none 0 0, .int .i64 0, .bool false, .slice none 0 0] 51)).heap[w.heap.size + 1]? = some (.cells #[.int .i64 s2, .bool b2, .slice A2 n2 c2, .int .i64 s2', .bool b2', .slice A2' n2' c2'] 51 (0, 0)) := blk_alloc (blk_at _ (by simp)) _
  have a3 : (((w.alloc (.cells #[.int .i64 s1, .bool b1, .slice A1 n1 c1, .int .i64 s1', .bool b1', .slice A1' n1' c1'] 51)).alloc (.cells #[.int .i64 s2, .bool b2, .slice A2 n2 c2, .int .i64 s2', .bool b2', .slice A2' n2' c2'] 51)).alloc (.cells #[.int .i64 0, .bool false, .slice none 0 0, .int .i64 0, .bool false, .slice none 0 0] 51)).heap[w.heap.size + 1 + 1]? = some (.cells #[.int .i64 0, .bool false, .slice none 0 0, .int .i64 0, .bool false, .slice none 0 0] 51 (0, 0)) := blk_at _ (by simp)
  replace h1 := h1.below B0
  replace h2 := h2.below B0
  generalize ((w.alloc (.cells #[.int .i64 s1, .bool b1, .slice A1 n1 c1, .int .i64 s1', .bool b1', .slice A1' n1' c1'] 51)).alloc (.cells #[.int .i64 s2, .bool b2, .slice A2 n2 c2, .int .i64 s2', .bool b2', .slice A2' n2' c2'] 51)).alloc (.cells #[.int .i64 0, .bool false, .slice none 0 0, .int .i64 0, .bool false, .slice none 0 0] 51) = W0 at *
  have N13 := Lib.hid (show w.heap.size ≠ w.heap.size + 1 + 1 by omega)
  have N23 := Lib.hid (show w.heap.size + 1 ≠ w.heap.size + 1 + 1 by omega)
  have v1_0 := h1
  have v2_0 := h2
  have a1_0 := a1
  have a2_0 := a2
  have a3_0 := a3
  have HB_0 := B0
  obtain ⟨⟨p1, p2, p3, p4, p5, p6⟩, p7, p8, p9, p10, p11, p12⟩ := bx6 a1
  obtain ⟨⟨q1, q2, q3, q4, q5, q6⟩, q7, q8, q9, q10, q11, q12⟩ := bx6 a2
  go_region_held3 (fun W => W.cell? ⟨w.heap.size, 0, none⟩ = some (Value.int .i64 s1) ∧ W.cell? ⟨w.heap.size, 1, none⟩ = some (Value.bool b1) ∧ W.cell? ⟨w.heap.size, 2, none⟩ = some (Value.slice A1 n1 c1) ∧ W.cell? ⟨w.heap.size, 3, none⟩ = some (Value.int .i64 s1') ∧ W.cell? ⟨w.heap.size, 4, none⟩ = some (Value.bool b1') ∧ W.cell? ⟨w.heap.size, 5, none⟩ = some (Value.slice A1' n1' c1') ∧ W.cell? ⟨w.heap.size + 1, 0, none⟩ = some (Value.int .i64 s2) ∧ W.cell? ⟨w.heap.size + 1, 1, none⟩ = some (Value.bool b2) ∧ W.cell? ⟨w.heap.size + 1, 2, none⟩ = some (Value.slice A2 n2 c2) ∧ W.cell? ⟨w.heap.size + 1, 3, none⟩ = some (Value.int .i64 s2') ∧ W.cell? ⟨w.heap.size + 1, 4, none⟩ = some (Value.bool b2') ∧ W.cell? ⟨w.heap.size + 1, 5, none⟩ = some (Value.slice A2' n2' c2')) (first | with_reducible exact P3 | with_reducible exact P2 | with_reducible exact P1 | with_reducible exact (j6 (cx6 (blk_drew a1_0)) (cx6 (blk_drew a2_0))) | with_reducible exact (j6 (cx6 (blk_far6 (a1_3) N13.out _ _ _ _ _ _)) (cx6 (blk_far6 (a2_3) N23.out _ _ _ _ _ _))) | go_keep) (first | (have _hh := HB_2; go_at_call 77; refine (rmake_calls sa ba Aa na ca (q.num * r.num) sb bb Ab nb cb ((q.den : Int) * (r.den : Int)) _ (by repeat (first | with_reducible exact ta_2 | with_reducible refine RV.kp ?_ (Kp.refl _ _).drew)) (by repeat (first | with_reducible exact tb_2 | with_reducible refine RV.kp ?_ (Kp.refl _ _).drew)) (k + k + 1) ((z1.1.mul z2.1).mono (by omega)) ((z1.2.mul z2.2).mono (by omega)) (by omega) (by omega) (Int.mul_ne_zero (by omega) (by omega))).mono ?_; rintro e ww3 ⟨⟨sR, bR, AR, nR, cR, sR', bR', AR', nR', cR', rfl, tR⟩, hB3⟩; have v1_3 : RRV ww3 s1 b1 A1 n1 c1 s1' b1' A1' n1' c1' q := (by repeat (first | with_reducible exact v1_2 | with_reducible refine RRV.below ?_ hB3 | with_reducible refine RRV.kp ?_ (Kp.refl _ _).drew)); have v2_3 : RRV ww3 s2 b2 A2 n2 c2 s2' b2' A2' n2' c2' r := (by repeat (first | with_reducible exact v2_2 | with_reducible refine RRV.below ?_ hB3 | with_reducible refine RRV.kp ?_ (Kp.refl _ _).drew)); have a1_3 : ww3.heap[w.heap.size]? = some (.cells #[.int .i64 s1, .bool b1, .slice A1 n1 c1, .int .i64 s1', .bool b1', .slice A1' n1' c1'] 51 (0, 0)) := (by repeat (first | with_reducible exact a1_2 | with_reducible refine blk_below ?_ hB3 | with_reducible refine blk_drew ?_)); have a2_3 : ww3.heap[w.heap.size + 1]? = some (.cells #[.int .i64 s2, .bool b2, .slice A2 n2 c2, .int .i64 s2', .bool b2', .slice A2' n2' c2'] 51 (0, 0)) := (by repeat (first | with_reducible exact a2_2 | with_reducible refine blk_below ?_ hB3 | with_reducible refine blk_drew ?_)); have a3_3 : ww3.heap[w.heap.size + 1 + 1]? = some (.cells #[.int .i64 0, .bool false, .slice none 0 0, .int .i64 0, .bool false, .slice none 0 0] 51 (0, 0)) := (by repeat (first | with_reducible exact a3_2 | with_reducible refine blk_below ?_ hB3 | with_reducible refine blk_drew ?_)); have ta_3 : RV ww3 sa ba Aa na ca (q.num * r.num) := (by repeat (first | with_reducible exact ta_2 | with_reducible refine RV.below ?_ hB3 | with_reducible refine RV.kp ?_ (Kp.refl _ _).drew)); have tb_3 : RV ww3 sb bb Ab nb cb ((q.den : Int) * (r.den : Int)) := (by repeat (first | with_reducible exact tb_2 | with_reducible refine RV.below ?_ hB3 | with_reducible refine RV.kp ?_ (Kp.refl _ _).drew)); have HB_3 : Below w.heap.size w ww3 := (by repeat (first | with_reducible exact HB_2 | with_reducible refine bl_then ?_ hB3 | with_reducible refine bl_drew ?_)); have P3 := j6 (cx6 (a1_3)) (cx6 (a2_3)); have hE := Lib.hid (putRR tR a3_3 HB_3 (by omega)); obtain ⟨⟨o1, o2, o3, o4, o5, o6⟩, o7, o8, o9, o10, o11, o12⟩ := bx6 a3_3) | (have _hh := HB_1; go_at_call_of 78 (Value.agg #[.int .i64 s1', .bool b1', .slice A1' n1' c1']); refine (rtimes_calls s1' b1' A1' n1' c1' (q.den : Int) s2' b2' A2' n2' c2' (r.den : Int) _ ((by repeat (first | with_reducible exact v1_1 | with_reducible refine RRV.kp ?_ (Kp.refl _ _).drew)) : RRV _ s1 b1 A1 n1 c1 s1' b1' A1' n1' c1' q).2 ((by repeat (first | with_reducible exact v2_1 | with_reducible refine RRV.kp ?_ (Kp.refl _ _).drew)) : RRV _ s2 b2 A2 n2 c2 s2' b2' A2' n2' c2' r).2 k z1.2 z2.2 (by omega)).mono ?_; rintro e ww2 ⟨⟨sb, bb, Ab, nb, cb, rfl, tb_2⟩, hB2⟩; have v1_2 : RRV ww2 s1 b1 A1 n1 c1 s1' b1' A1' n1' c1' q := (by repeat (first | with_reducible exact v1_1 | with_reducible refine RRV.below ?_ hB2 | with_reducible refine RRV.kp ?_ (Kp.refl _ _).drew)); have v2_2 : RRV ww2 s2 b2 A2 n2 c2 s2' b2' A2' n2' c2' r := (by repeat (first | with_reducible exact v2_1 | with_reducible refine RRV.below ?_ hB2 | with_reducible refine RRV.kp ?_ (Kp.refl _ _).drew)); have a1_2 : ww2.heap[w.heap.size]? = some (.cells #[.int .i64 s1, .bool b1, .slice A1 n1 c1, .int .i64 s1', .bool b1', .slice A1' n1' c1'] 51 (0, 0)) := (by repeat (first | with_reducible exact a1_1 | with_reducible refine blk_below ?_ hB2 | with_reducible refine blk_drew ?_)); have a2_2 : ww2.heap[w.heap.size + 1]? = some (.cells #[.int .i64 s2, .bool b2, .slice A2 n2 c2, .int .i64 s2', .bool b2', .slice A2' n2' c2'] 51 (0, 0)) := (by repeat (first | with_reducible exact a2_1 | with_reducible refine blk_below ?_ hB2 | with_reducible refine blk_drew ?_)); have a3_2 : ww2.heap[w.heap.size + 1 + 1]? = some (.cells #[.int .i64 0, .bool false, .slice none 0 0, .int .i64 0, .bool false, .slice none 0 0] 51 (0, 0)) := (by repeat (first | with_reducible exact a3_1 | with_reducible refine blk_below ?_ hB2 | with_reducible refine blk_drew ?_)); have ta_2 : RV ww2 sa ba Aa na ca (q.num * r.num) := (by repeat (first | with_reducible exact ta_1 | with_reducible refine RV.below ?_ hB2 | with_reducible refine RV.kp ?_ (Kp.refl _ _).drew)); have HB_2 : Below w.heap.size w ww2 := (by repeat (first | with_reducible exact HB_1 | with_reducible refine bl_then ?_ hB2 | with_reducible refine bl_drew ?_)); have P2 := j6 (cx6 (a1_2)) (cx6 (a2_2))) | (go_at_call_of 78 (Value.agg #[.int .i64 s1, .bool b1, .slice A1 n1 c1]); refine (rtimes_calls s1 b1 A1 n1 c1 q.num s2 b2 A2 n2 c2 r.num _ ((by repeat (first | with_reducible exact v1_0 | with_reducible refine RRV.kp ?_ (Kp.refl _ _).drew)) : RRV _ s1 b1 A1 n1 c1 s1' b1' A1' n1' c1' q).1 ((by repeat (first | with_reducible exact v2_0 | with_reducible refine RRV.kp ?_ (Kp.refl _ _).drew)) : RRV _ s2 b2 A2 n2 c2 s2' b2' A2' n2' c2' r).1 k z1.1 z2.1 (by omega)).mono ?_; rintro e ww1 ⟨⟨sa, ba, Aa, na, ca, rfl, ta_1⟩, hB1⟩; have v1_1 : RRV ww1 s1 b1 A1 n1 c1 s1' b1' A1' n1' c1' q := (by repeat (first | with_reducible exact v1_0 | with_reducible refine RRV.below ?_ hB1 | with_reducible refine RRV.kp ?_ (Kp.refl _ _).drew)); have v2_1 : RRV ww1 s2 b2 A2 n2 c2 s2' b2' A2' n2' c2' r := (by repeat (first | with_reducible exact v2_0 | with_reducible refine RRV.below ?_ hB1 | with_reducible refine RRV.kp ?_ (Kp.refl _ _).drew)); have a1_1 : ww1.heap[w.heap.size]? = some (.cells #[.int .i64 s1, .bool b1, .slice A1 n1 c1, .int .i64 s1', .bool b1', .slice A1' n1' c1'] 51 (0, 0)) := (by repeat (first | with_reducible exact a1_0 | with_reducible refine blk_below ?_ hB1 | with_reducible refine blk_drew ?_)); have a2_1 : ww1.heap[w.heap.size + 1]? = some (.cells #[.int .i64 s2, .bool b2, .slice A2 n2 c2, .int .i64 s2', .bool b2', .slice A2' n2' c2'] 51 (0, 0)) := (by repeat (first | with_reducible exact a2_0 | with_reducible refine blk_below ?_ hB1 | with_reducible refine blk_drew ?_)); have a3_1 : ww1.heap[w.heap.size + 1 + 1]? = some (.cells #[.int .i64 0, .bool false, .slice none 0 0, .int .i64 0, .bool false, .slice none 0 0] 51 (0, 0)) := (by repeat (first | with_reducible exact a3_0 | with_reducible refine blk_below ?_ hB1 | with_reducible refine blk_drew ?_)); have HB_1 : Below w.heap.size w ww1 := (by repeat (first | with_reducible exact HB_0 | with_reducible refine bl_then ?_ hB1 | with_reducible refine bl_drew ?_)); have P1 := j6 (cx6 (a1_1)) (cx6 (a2_1))) | fail)
  all_goals
    go_wp2
    refine bodyPost_ret (results_cell_row rfl _ _ (w.heap.size + 1 + 1) 51 #[.int .i64 sR, .bool bR, .slice AR nR cR, .int .i64 sR', .bool bR', .slice AR' nR' cR'] (0, 0) _ rfl hE.out.2.2 Tryz.underlying51 rfl (by kernel_rfl)) rfl ?_
    exact ⟨⟨_, _, _, _, _, _, _, _, _, _, rfl, hE.out.1⟩, hE.out.2.1⟩

set_option maxHeartbeats 8000000 in
set_option maxRecDepth 100000 in
theorem rrover_calls (s1 : Int) (b1 : Bool) (A1 : Option Addr) (n1 c1 : Nat) (s1' : Int) (b1' : Bool) (A1' : Option Addr) (n1' c1' : Nat) (q : Rat) (s2 : Int) (b2 : Bool) (A2 : Option Addr) (n2 c2 : Nat) (s2' : Int) (b2' : Bool) (A2' : Option Addr) (n2' c2' : Nat) (r : Rat) (w : World) (h1 : RRV w s1 b1 A1 n1 c1 s1' b1' A1' n1' c1' q) (h2 : RRV w s2 b2 A2 n2 c2 s2' b2' A2' n2' c2' r) (k : Nat) (z1 : SzR k q) (z2 : SzR k r) (hk : k ≤ 9000000000) (hr : r ≠ 0) :
    Calls Tryz.prog 33 #[.agg #[.int .i64 s1, .bool b1, .slice A1 n1 c1, .int .i64 s1', .bool b1', .slice A1' n1' c1'], .agg #[.int .i64 s2, .bool b2, .slice A2 n2 c2, .int .i64 s2', .bool b2', .slice A2' n2' c2']] w fun e w' => RRatR e w' (q / r) ∧ Below w.heap.size w w' := by
  have dq := q.den_pos
  have dr := r.den_pos
  rw [rat_div_eq q r]
  go_enter Tryz.func33, Tryz.ntmps33
  go_wp2_with fail
  have B0 := bl_alloc (bl_alloc (bl_alloc (Below.refl w.heap.size w) (.cells #[.int .i64 s1, .bool b1, .slice A1 n1 c1, .int .i64 s1', .bool b1', .slice A1' n1' c1'] 51)) (.cells #[.int .i64 s2, .bool b2, .slice A2 n2 c2, .int .i64 s2', .bool b2', .slice A2' n2' c2'] 51)) (.cells #[.int .i64 0, .bool false, .slice none 0 0, .int .i64 0, .bool false, .slice none 0 0] 51)
  have a1 : (((w.alloc (.cells #[.int .i64 s1, .bool b1, .slice A1 n1 c1, .int .i64 s1', .bool b1', .slice A1' n1' c1'] 51)).alloc (.cells #[.int .i64 s2, .bool b2, .slice A2 n2 c2, .int .i64 s2', .bool b2', .slice A2' n2' c2'] 51)).alloc (.cells #[.int .i64 0, .bool false, .slice none 0 0, .int .i64 0, .bool false, .slice none 0 0] 51)).heap[w.heap.size]? = some (.cells #[.int .i64 s1, .bool b1, .slice A1 n1 c1, .int .i64 s1', .bool b1', .slice A1' n1' c1'] 51 (0, 0)) := blk_alloc (blk_alloc (blk_at _ rfl) _) _
  have a2 : (((w.alloc (.cells #[.int .i64 s1, .bool b1, .slice A1 n1 c1, .int .i64 s1', .bool b1', .slice A1' n1' c1'] 51)).alloc (.cells #[.int .i64 s2, .bool b2, .slice A2 n2 c2, .int .i64 s2', .bool b2', .slice A2' n2' c2'] 51)).alloc (.cells #[.int .i64 0, .bool false, .slice none 0 0, .int .i64 0, .bool false, .slice none 0 0] 51)).heap[w.heap.size + 1]? = some (.cells #[.int .i64 s2, .bool b2, .slice A2 n2 c2, .int .i64 s2', .bool b2', .slice A2' n2' c2'] 51 (0, 0)) := blk_alloc (blk_at _ (by simp)) _
  have a3 : (((w.alloc (.cells #[.int .i64 s1, .bool b1, .slice A1 n1 c1, .int .i64 s1', .bool b1', .slice A1' n1' c1'] 51)).alloc (.cells #[.int .i64 s2, .bool b2, .slice A2 n2 c2, .int .i64 s2', .bool b2', .slice A2' n2' c2'] 51)).alloc (.cells #[.int .i64 0, .bool false, .slice none 0 0, .int .i64 0, .bool false, .slice none 0 0] 51)).heap[w.heap.size + 1 + 1]? = some (.cells #[.int .i64 0, .bool false, .slice none 0 0, .int .i64 0, .bool false, .slice none 0 0] 51 (0, 0)) := blk_at _ (by simp)
  replace h1 := h1.below B0
  replace h2 := h2.below B0
  generalize ((w.alloc (.cells #[.int .i64 s1, .bool b1, .slice A1 n1 c1, .int .i64 s1', .bool b1', .slice A1' n1' c1'] 51)).alloc (.cells #[.int .i64 s2, .bool b2, .slice A2 n2 c2, .int .i64 s2', .bool b2', .slice A2' n2' c2'] 51)).alloc (.cells #[.int .i64 0, .bool false, .slice none 0 0, .int .i64 0, .bool false, .slice none 0 0] 51) = W0 at *
  have N13 := Lib.hid (show w.heap.size ≠ w.heap.size + 1 + 1 by omega)
  have N23 := Lib.hid (show w.heap.size + 1 ≠ w.heap.size + 1 + 1 by omega)
  have v1_0 := h1
  have v2_0 := h2
  have a1_0 := a1
  have a2_0 := a2
  have a3_0 := a3
  have HB_0 := B0
  obtain ⟨⟨p1, p2, p3, p4, p5, p6⟩, p7, p8, p9, p10, p11, p12⟩ := bx6 a1
  obtain ⟨⟨q1, q2, q3, q4, q5, q6⟩, q7, q8, q9, q10, q11, q12⟩ := bx6 a2
  go_region_held3 (fun W => W.cell? ⟨w.heap.size, 0, none⟩ = some (Value.int .i64 s1) ∧ W.cell? ⟨w.heap.size, 1, none⟩ = some (Value.bool b1) ∧ W.cell? ⟨w.heap.size, 2, none⟩ = some (Value.slice A1 n1 c1) ∧ W.cell? ⟨w.heap.size, 3, none⟩ = some (Value.int .i64 s1') ∧ W.cell? ⟨w.heap.size, 4, none⟩ = some (Value.bool b1') ∧ W.cell? ⟨w.heap.size, 5, none⟩ = some (Value.slice A1' n1' c1') ∧ W.cell? ⟨w.heap.size + 1, 0, none⟩ = some (Value.int .i64 s2) ∧ W.cell? ⟨w.heap.size + 1, 1, none⟩ = some (Value.bool b2) ∧ W.cell? ⟨w.heap.size + 1, 2, none⟩ = some (Value.slice A2 n2 c2) ∧ W.cell? ⟨w.heap.size + 1, 3, none⟩ = some (Value.int .i64 s2') ∧ W.cell? ⟨w.heap.size + 1, 4, none⟩ = some (Value.bool b2') ∧ W.cell? ⟨w.heap.size + 1, 5, none⟩ = some (Value.slice A2' n2' c2')) (first | with_reducible exact P3 | with_reducible exact P2 | with_reducible exact P1 | with_reducible exact (j6 (cx6 (blk_drew a1_0)) (cx6 (blk_drew a2_0))) | with_reducible exact (j6 (cx6 (blk_far6 (a1_3) N13.out _ _ _ _ _ _)) (cx6 (blk_far6 (a2_3) N23.out _ _ _ _ _ _))) | go_keep) (first | (have _hh := HB_2; go_at_call 77; refine (rmake_calls sa ba Aa na ca (q.num * (r.den : Int)) sb bb Ab nb cb ((q.den : Int) * r.num) _ (by repeat (first | with_reducible exact ta_2 | with_reducible refine RV.kp ?_ (Kp.refl _ _).drew)) (by repeat (first | with_reducible exact tb_2 | with_reducible refine RV.kp ?_ (Kp.refl _ _).drew)) (k + k + 1) ((z1.1.mul z2.2).mono (by omega)) ((z1.2.mul z2.1).mono (by omega)) (by omega) (by omega) (Int.mul_ne_zero (by omega) (mt Rat.num_eq_zero.1 hr))).mono ?_; rintro e ww3 ⟨⟨sR, bR, AR, nR, cR, sR', bR', AR', nR', cR', rfl, tR⟩, hB3⟩; have v1_3 : RRV ww3 s1 b1 A1 n1 c1 s1' b1' A1' n1' c1' q := (by repeat (first | with_reducible exact v1_2 | with_reducible refine RRV.below ?_ hB3 | with_reducible refine RRV.kp ?_ (Kp.refl _ _).drew)); have v2_3 : RRV ww3 s2 b2 A2 n2 c2 s2' b2' A2' n2' c2' r := (by repeat (first | with_reducible exact v2_2 | with_reducible refine RRV.below ?_ hB3 | with_reducible refine RRV.kp ?_ (Kp.refl _ _).drew)); have a1_3 : ww3.heap[w.heap.size]? = some (.cells #[.int .i64 s1, .bool b1, .slice A1 n1 c1, .int .i64 s1', .bool b1', .slice A1' n1' c1'] 51 (0, 0)) := (by repeat (first | with_reducible exact a1_2 | with_reducible refine blk_below ?_ hB3 | with_reducible refine blk_drew ?_)); have a2_3 : ww3.heap[w.heap.size + 1]? = some (.cells #[.int .i64 s2, .bool b2, .slice A2 n2 c2, .int .i64 s2', .bool b2', .slice A2' n2' c2'] 51 (0, 0)) := (by repeat (first | with_reducible exact a2_2 | with_reducible refine blk_below ?_ hB3 | with_reducible refine blk_drew ?_)); have a3_3 : ww3.heap[w.heap.size + 1 + 1]? = some (.cells #[.int .i64 0, .bool false, .slice none 0 0, .int .i64 0, .bool false, .slice none 0 0] 51 (0, 0)) := (by repeat (first | with_reducible exact a3_2 | with_reducible refine blk_below ?_ hB3 | with_reducible refine blk_drew ?_)); have ta_3 : RV ww3 sa ba Aa na ca (q.num * (r.den : Int)) := (by repeat (first | with_reducible exact ta_2 | with_reducible refine RV.below ?_ hB3 | with_reducible refine RV.kp ?_ (Kp.refl _ _).drew)); have tb_3 : RV ww3 sb bb Ab nb cb ((q.den : Int) * r.num) := (by repeat (first | with_reducible exact tb_2 | with_reducible refine RV.below ?_ hB3 | with_reducible refine RV.kp ?_ (Kp.refl _ _).drew)); have HB_3 : Below w.heap.size w ww3 := (by repeat (first | with_reducible exact HB_2 | with_reducible refine bl_then ?_ hB3 | with_reducible refine bl_drew ?_)); have P3 := j6 (cx6 (a1_3)) (cx6 (a2_3)); have hE := Lib.hid (putRR tR a3_3 HB_3 (by omega)); obtain ⟨⟨o1, o2, o3, o4, o5, o6⟩, o7, o8, o9, o10, o11, o12⟩ := bx6 a3_3) | (have _hh := HB_1; go_at_call_of 78 (Value.agg #[.int .i64 s1', .bool b1', .slice A1' n1' c1']); refine (rtimes_calls s1' b1' A1' n1' c1' (q.den : Int) s2 b2 A2 n2 c2 r.num _ ((by repeat (first | with_reducible exact v1_1 | with_reducible refine RRV.kp ?_ (Kp.refl _ _).drew)) : RRV _ s1 b1 A1 n1 c1 s1' b1' A1' n1' c1' q).2 ((by repeat (first | with_reducible exact v2_1 | with_reducible refine RRV.kp ?_ (Kp.refl _ _).drew)) : RRV _ s2 b2 A2 n2 c2 s2' b2' A2' n2' c2' r).1 k z1.2 z2.1 (by omega)).mono ?_; rintro e ww2 ⟨⟨sb, bb, Ab, nb, cb, rfl, tb_2⟩, hB2⟩; have v1_2 : RRV ww2 s1 b1 A1 n1 c1 s1' b1' A1' n1' c1' q := (by repeat (first | with_reducible exact v1_1 | with_reducible refine RRV.below ?_ hB2 | with_reducible refine RRV.kp ?_ (Kp.refl _ _).drew)); have v2_2 : RRV ww2 s2 b2 A2 n2 c2 s2' b2' A2' n2' c2' r := (by repeat (first | with_reducible exact v2_1 | with_reducible refine RRV.below ?_ hB2 | with_reducible refine RRV.kp ?_ (Kp.refl _ _).drew)); have a1_2 : ww2.heap[w.heap.size]? = some (.cells #[.int .i64 s1, .bool b1, .slice A1 n1 c1, .int .i64 s1', .bool b1', .slice A1' n1' c1'] 51 (0, 0)) := (by repeat (first | with_reducible exact a1_1 | with_reducible refine blk_below ?_ hB2 | with_reducible refine blk_drew ?_)); have a2_2 : ww2.heap[w.heap.size + 1]? = some (.cells #[.int .i64 s2, .bool b2, .slice A2 n2 c2, .int .i64 s2', .bool b2', .slice A2' n2' c2'] 51 (0, 0)) := (by repeat (first | with_reducible exact a2_1 | with_reducible refine blk_below ?_ hB2 | with_reducible refine blk_drew ?_)); have a3_2 : ww2.heap[w.heap.size + 1 + 1]? = some (.cells #[.int .i64 0, .bool false, .slice none 0 0, .int .i64 0, .bool false, .slice none 0 0] 51 (0, 0)) := (by repeat (first | with_reducible exact a3_1 | with_reducible refine blk_below ?_ hB2 | with_reducible refine blk_drew ?_)); have ta_2 : RV ww2 sa ba Aa na ca (q.num * (r.den : Int)) := (by repeat (first | with_reducible exact ta_1 | with_reducible refine RV.below ?_ hB2 | with_reducible refine RV.kp ?_ (Kp.refl _ _).drew)); have HB_2 : Below w.heap.size w ww2 := (by repeat (first | with_reducible exact HB_1 | with_reducible refine bl_then ?_ hB2 | with_reducible refine bl_drew ?_)); have P2 := j6 (cx6 (a1_2)) (cx6 (a2_2))) | (go_at_call_of 78 (Value.agg #[.int .i64 s1, .bool b1, .slice A1 n1 c1]); refine (rtimes_calls s1 b1 A1 n1 c1 q.num s2' b2' A2' n2' c2' (r.den : Int) _ ((by repeat (first | with_reducible exact v1_0 | with_reducible refine RRV.kp ?_ (Kp.refl _ _).drew)) : RRV _ s1 b1 A1 n1 c1 s1' b1' A1' n1' c1' q).1 ((by repeat (first | with_reducible exact v2_0 | with_reducible refine RRV.kp ?_ (Kp.refl _ _).drew)) : RRV _ s2 b2 A2 n2 c2 s2' b2' A2' n2' c2' r).2 k z1.1 z2.2 (by omega)).mono ?_; rintro e ww1 ⟨⟨sa, ba, Aa, na, ca, rfl, ta_1⟩, hB1⟩; have v1_1 : RRV ww1 s1 b1 A1 n1 c1 s1' b1' A1' n1' c1' q := (by repeat (first | with_reducible exact v1_0 | with_reducible refine RRV.below ?_ hB1 | with_reducible refine RRV.kp ?_ (Kp.refl _ _).drew)); have v2_1 : RRV ww1 s2 b2 A2 n2 c2 s2' b2' A2' n2' c2' r := (by repeat (first | with_reducible exact v2_0 | with_reducible refine RRV.below ?_ hB1 | with_reducible refine RRV.kp ?_ (Kp.refl _ _).drew)); have a1_1 : ww1.heap[w.heap.size]? = some (.cells #[.int .i64 s1, .bool b1, .slice A1 n1 c1, .int .i64 s1', .bool b1', .slice A1' n1' c1'] 51 (0, 0)) := (by repeat (first | with_reducible exact a1_0 | with_reducible refine blk_below ?_ hB1 | with_reducible refine blk_drew ?_)); have a2_1 : ww1.heap[w.heap.size + 1]? = some (.cells #[.int .i64 s2, .bool b2, .slice A2 n2 c2, .int .i64 s2', .bool b2', .slice A2' n2' c2'] 51 (0, 0)) := (by repeat (first | with_reducible exact a2_0 | with_reducible refine blk_below ?_ hB1 | with_reducible refine blk_drew ?_)); have a3_1 : ww1.heap[w.heap.size + 1 + 1]? = some (.cells #[.int .i64 0, .bool false, .slice none 0 0, .int .i64 0, .bool false, .slice none 0 0] 51 (0, 0)) := (by repeat (first | with_reducible exact a3_0 | with_reducible refine blk_below ?_ hB1 | with_reducible refine blk_drew ?_)); have HB_1 : Below w.heap.size w ww1 := (by repeat (first | with_reducible exact HB_0 | with_reducible refine bl_then ?_ hB1 | with_reducible refine bl_drew ?_)); have P1 := j6 (cx6 (a1_1)) (cx6 (a2_1))) | fail)
  all_goals
    go_wp2
    refine bodyPost_ret (results_cell_row rfl _ _ (w.heap.size + 1 + 1) 51 #[.int .i64 sR, .bool bR, .slice AR nR cR, .int .i64 sR', .bool bR', .slice AR' nR' cR'] (0, 0) _ rfl hE.out.2.2 Tryz.underlying51 rfl (by kernel_rfl)) rfl ?_
    exact ⟨⟨_, _, _, _, _, _, _, _, _, _, rfl, hE.out.1⟩, hE.out.2.1⟩

set_option maxHeartbeats 8000000 in
set_option maxRecDepth 100000 in
theorem rrminus_calls (s1 : Int) (b1 : Bool) (A1 : Option Addr) (n1 c1 : Nat) (s1' : Int) (b1' : Bool) (A1' : Option Addr) (n1' c1' : Nat) (q : Rat) (w : World) (h1 : RRV w s1 b1 A1 n1 c1 s1' b1' A1' n1' c1' q) :
    Calls Tryz.prog 131 #[.agg #[.int .i64 s1, .bool b1, .slice A1 n1 c1, .int .i64 s1', .bool b1', .slice A1' n1' c1']] w fun e w' => RRatR e w' (-q) ∧ Below w.heap.size w w' := by
  go_enter Tryz.func131, Tryz.ntmps131
  go_wp2_with fail
  have B0 := bl_alloc (bl_alloc (Below.refl w.heap.size w) (.cells #[.int .i64 s1, .bool b1, .slice A1 n1 c1, .int .i64 s1', .bool b1', .slice A1' n1' c1'] 51)) (.cells #[.int .i64 0, .bool false, .slice none 0 0, .int .i64 0, .bool false, .slice none 0 0] 51)
  have a1 : ((w.alloc (.cells #[.int .i64 s1, .bool b1, .slice A1 n1 c1, .int .i64 s1', .bool b1', .slice A1' n1' c1'] 51)).alloc (.cells #[.int .i64 0, .bool false, .slice none 0 0, .int .i64 0, .bool false, .slice none 0 0] 51)).heap[w.heap.size]? = some (.cells #[.int .i64 s1, .bool b1, .slice A1 n1 c1, .int .i64 s1', .bool b1', .slice A1' n1' c1'] 51 (0, 0)) := blk_alloc (blk_at _ rfl) _
  have a2 : ((w.alloc (.cells #[.int .i64 s1, .bool b1, .slice A1 n1 c1, .int .i64 s1', .bool b1', .slice A1' n1' c1'] 51)).alloc (.cells #[.int .i64 0, .bool false, .slice none 0 0, .int .i64 0, .bool false, .slice none 0 0] 51)).heap[w.heap.size + 1]? = some (.cells #[.int .i64 0, .bool false, .slice none 0 0, .int .i64 0, .bool false, .slice none 0 0] 51 (0, 0)) := blk_at _ (by simp)
  replace h1 := h1.below B0
  generalize (w.alloc (.cells #[.int .i64 s1, .bool b1, .slice A1 n1 c1, .int .i64 s1', .bool b1', .slice A1' n1' c1'] 51)).alloc (.cells #[.int .i64 0, .bool false, .slice none 0 0, .int .i64 0, .bool false, .slice none 0 0] 51) = W0 at *
  have N13 := Lib.hid (show w.heap.size ≠ w.heap.size + 1 by omega)
  have v1_0 := h1
  have a1_0 := a1
  have a2_0 := a2
  have HB_0 := B0
  obtain ⟨⟨p1, p2, p3, p4, p5, p6⟩, p7, p8, p9, p10, p11, p12⟩ := bx6 a1
  go_region_held3 (fun W => W.cell? ⟨w.heap.size, 0, none⟩ = some (Value.int .i64 s1) ∧ W.cell? ⟨w.heap.size, 1, none⟩ = some (Value.bool b1) ∧ W.cell? ⟨w.heap.size, 2, none⟩ = some (Value.slice A1 n1 c1) ∧ W.cell? ⟨w.heap.size, 3, none⟩ = some (Value.int .i64 s1') ∧ W.cell? ⟨w.heap.size, 4, none⟩ = some (Value.bool b1') ∧ W.cell? ⟨w.heap.size, 5, none⟩ = some (Value.slice A1' n1' c1')) (first | with_reducible exact P1 | with_reducible exact (cx6 (blk_drew a1_0)) | with_reducible exact (cx6 (blk_far6 (a1_1) N13.out _ _ _ _ _ _)) | go_keep) (first | (go_at_call 106; refine (rminus_calls s1 b1 A1 n1 c1 q.num _ ((by repeat (first | with_reducible exact v1_0 | with_reducible refine RRV.kp ?_ (Kp.refl _ _).drew)) : RRV _ s1 b1 A1 n1 c1 s1' b1' A1' n1' c1' q).1).mono ?_; rintro e ww1 ⟨rfl, hB1⟩; have v1_1 : RRV ww1 s1 b1 A1 n1 c1 s1' b1' A1' n1' c1' q := (by repeat (first | with_reducible exact v1_0 | with_reducible refine RRV.below ?_ hB1 | with_reducible refine RRV.kp ?_ (Kp.refl _ _).drew)); have a1_1 : ww1.heap[w.heap.size]? = some (.cells #[.int .i64 s1, .bool b1, .slice A1 n1 c1, .int .i64 s1', .bool b1', .slice A1' n1' c1'] 51 (0, 0)) := (by repeat (first | with_reducible exact a1_0 | with_reducible refine blk_below ?_ hB1 | with_reducible refine blk_drew ?_)); have a2_1 : ww1.heap[w.heap.size + 1]? = some (.cells #[.int .i64 0, .bool false, .slice none 0 0, .int .i64 0, .bool false, .slice none 0 0] 51 (0, 0)) := (by repeat (first | with_reducible exact a2_0 | with_reducible refine blk_below ?_ hB1 | with_reducible refine blk_drew ?_)); have HB_1 : Below w.heap.size w ww1 := (by repeat (first | with_reducible exact HB_0 | with_reducible refine bl_then ?_ hB1 | with_reducible refine bl_drew ?_)); have P1 := cx6 (a1_1); have tR : RRV ww1 (-s1) (decide (0 < n1) && !b1) A1 n1 c1 s1' b1' A1' n1' c1' (-q) := ⟨(by rw [Rat.neg_num]; exact v1_1.1.neg), (by rw [Rat.neg_den]; exact v1_1.2)⟩; have hE := Lib.hid (putRR tR a2_1 HB_1 (by omega)); obtain ⟨⟨o1, o2, o3, o4, o5, o6⟩, o7, o8, o9, o10, o11, o12⟩ := bx6 a2_1) | fail)
  all_goals
    go_wp2
    refine bodyPost_ret (results_cell_row rfl _ _ (w.heap.size + 1) 51 #[.int .i64 (-s1), .bool (decide (0 < n1) && !b1), .slice A1 n1 c1, .int .i64 s1', .bool b1', .slice A1' n1' c1'] (0, 0) _ rfl hE.out.2.2 Tryz.underlying51 rfl (by kernel_rfl)) rfl ?_
    exact ⟨⟨_, _, _, _, _, _, _, _, _, _, rfl, hE.out.1⟩, hE.out.2.1⟩

set_option maxHeartbeats 8000000 in
set_option maxRecDepth 100000 in
theorem rrless_calls (s1 : Int) (b1 : Bool) (A1 : Option Addr) (n1 c1 : Nat) (s1' : Int) (b1' : Bool) (A1' : Option Addr) (n1' c1' : Nat) (q : Rat) (s2 : Int) (b2 : Bool) (A2 : Option Addr) (n2 c2 : Nat) (s2' : Int) (b2' : Bool) (A2' : Option Addr) (n2' c2' : Nat) (r : Rat) (w : World) (h1 : RRV w s1 b1 A1 n1 c1 s1' b1' A1' n1' c1' q) (h2 : RRV w s2 b2 A2 n2 c2 s2' b2' A2' n2' c2' r) (k : Nat) (z1 : SzR k q) (z2 : SzR k r) (hk : k ≤ 9000000000) :
    Calls Tryz.prog 81 #[.agg #[.int .i64 s1, .bool b1, .slice A1 n1 c1, .int .i64 s1', .bool b1', .slice A1' n1' c1'], .agg #[.int .i64 s2, .bool b2, .slice A2 n2 c2, .int .i64 s2', .bool b2', .slice A2' n2' c2']] w fun e w' => RRatR e w' (q - r) ∧ Below w.heap.size w w' := by
  have dq := q.den_pos
  have dr := r.den_pos
  rw [Rat.sub_eq_add_neg]
  go_enter Tryz.func81, Tryz.ntmps81
  go_wp2_with fail
  have B0 := bl_alloc (bl_alloc (bl_alloc (Below.refl w.heap.size w) (.cells #[.int .i64 s1, .bool b1, .slice A1 n1 c1, .int .i64 s1', .bool b1', .slice A1' n1' c1'] 51)) (.cells #[.int .i64 s2, .bool b2, .slice A2 n2 c2, .int .i64 s2', .bool b2', .slice A2' n2' c2'] 51)) (.cells #[.int .i64 0, .bool false, .slice none 0 0, .int .i64 0, .bool false, .slice none 0 0] 51)
  have a1 : (((w.alloc (.cells #[.int .i64 s1, .bool b1, .slice A1 n1 c1, .int .i64 s1', .bool b1', .slice A1' n1' c1'] 51)).alloc (.cells #[.int .i64 s2, .bool b2, .slice A2 n2 c2, .int .i64 s2', .bool b2', .slice A2' n2' c2'] 51)).alloc (.cells #[.int .i64 0, .bool false, .slice none 0 0, .int .i64 0, .bool false, .slice none 0 0] 51)).heap[w.heap.size]? = some (.cells #[.int .i64 s1, .bool b1, .slice A1 n1 c1, .int .i64 s1', .bool b1', .slice A1' n1' c1'] 51 (0, 0)) := blk_alloc (blk_alloc (blk_at _ rfl) _) _
  have a2 : (((w.alloc (.cells #[.int .i64 s1, .bool b1, .slice A1 n1 c1, .int .i64 s1', .bool b1', .slice A1' n1' c1'] 51)).alloc (.cells #[.int .i64 s2, .bool b2, .slice A2 n2 c2, .int .i64 s2', .bool b2', .slice A2' n2' c2'] 51)).alloc (.cells #[.int .i64 0, .bool false, .slice none 0 0, .int .i64 0, .bool false, .slice none 0 0] 51)).heap[w.heap.size + 1]? = some (.cells #[.int .i64 s2, .bool b2, .slice A2 n2 c2, .int .i64 s2', .bool b2', .slice A2' n2' c2'] 51 (0, 0)) := blk_alloc (blk_at _ (by simp)) _
  have a3 : (((w.alloc (.cells #[.int .i64 s1, .bool b1, .slice A1 n1 c1, .int .i64 s1', .bool b1', .slice A1' n1' c1'] 51)).alloc (.cells #[.int .i64 s2, .bool b2, .slice A2 n2 c2, .int .i64 s2', .bool b2', .slice A2' n2' c2'] 51)).alloc (.cells #[.int .i64 0, .bool false, .slice none 0 0, .int .i64 0, .bool false, .slice none 0 0] 51)).heap[w.heap.size + 1 + 1]? = some (.cells #[.int .i64 0, .bool false, .slice none 0 0, .int .i64 0, .bool false, .slice none 0 0] 51 (0, 0)) := blk_at _ (by simp)
  replace h1 := h1.below B0
  replace h2 := h2.below B0
  generalize ((w.alloc (.cells #[.int .i64 s1, .bool b1, .slice A1 n1 c1, .int .i64 s1', .bool b1', .slice A1' n1' c1'] 51)).alloc (.cells #[.int .i64 s2, .bool b2, .slice A2 n2 c2, .int .i64 s2', .bool b2', .slice A2' n2' c2'] 51)).alloc (.cells #[.int .i64 0, .bool false, .slice none 0 0, .int .i64 0, .bool false, .slice none 0 0] 51) = W0 at *
  have N13 := Lib.hid (show w.heap.size ≠ w.heap.size + 1 + 1 by omega)
  have N23 := Lib.hid (show w.heap.size + 1 ≠ w.heap.size + 1 + 1 by omega)
  have v1_0 := h1
  have v2_0 := h2
  have a1_0 := a1
  have a2_0 := a2
  have a3_0 := a3
  have HB_0 := B0
  obtain ⟨⟨p1, p2, p3, p4, p5, p6⟩, p7, p8, p9, p10, p11, p12⟩ := bx6 a1
  obtain ⟨⟨q1, q2, q3, q4, q5, q6⟩, q7, q8, q9, q10, q11, q12⟩ := bx6 a2
  go_region_held3 (fun W => W.cell? ⟨w.heap.size, 0, none⟩ = some (Value.int .i64 s1) ∧ W.cell? ⟨w.heap.size, 1, none⟩ = some (Value.bool b1) ∧ W.cell? ⟨w.heap.size, 2, none⟩ = some (Value.slice A1 n1 c1) ∧ W.cell? ⟨w.heap.size, 3, none⟩ = some (Value.int .i64 s1') ∧ W.cell? ⟨w.heap.size, 4, none⟩ = some (Value.bool b1') ∧ W.cell? ⟨w.heap.size, 5, none⟩ = some (Value.slice A1' n1' c1') ∧ W.cell? ⟨w.heap.size + 1, 0, none⟩ = some (Value.int .i64 s2) ∧ W.cell? ⟨w.heap.size + 1, 1, none⟩ = some (Value.bool b2) ∧ W.cell? ⟨w.heap.size + 1, 2, none⟩ = some (Value.slice A2 n2 c2) ∧ W.cell? ⟨w.heap.size + 1, 3, none⟩ = some (Value.int .i64 s2') ∧ W.cell? ⟨w.heap.size + 1, 4, none⟩ = some (Value.bool b2') ∧ W.cell? ⟨w.heap.size + 1, 5, none⟩ = some (Value.slice A2' n2' c2')) (first | with_reducible exact P2 | with_reducible exact P1 | with_reducible exact (j6 (cx6 (blk_drew a1_0)) (cx6 (blk_drew a2_0))) | with_reducible exact (j6 (cx6 (blk_far6 (a1_2) N13.out _ _ _ _ _ _)) (cx6 (blk_far6 (a2_2) N23.out _ _ _ _ _ _))) | go_keep) (first | (have _hh := HB_1; go_at_call 27; refine (rrplus_calls s1 b1 A1 n1 c1 s1' b1' A1' n1' c1' q s3 b3 A3 n3 c3 s3' b3' A3' n3' c3' (-r) _ (by repeat (first | with_reducible exact v1_1 | with_reducible refine RRV.kp ?_ (Kp.refl _ _).drew)) (by repeat (first | with_reducible exact t3_1 | with_reducible refine RRV.kp ?_ (Kp.refl _ _).drew)) k z1 (szr_neg z2) hk).mono ?_; rintro e ww2 ⟨⟨sR, bR, AR, nR, cR, sR', bR', AR', nR', cR', rfl, tR⟩, hB2⟩; have v1_2 : RRV ww2 s1 b1 A1 n1 c1 s1' b1' A1' n1' c1' q := (by repeat (first | with_reducible exact v1_1 | with_reducible refine RRV.below ?_ hB2 | with_reducible refine RRV.kp ?_ (Kp.refl _ _).drew)); have v2_2 : RRV ww2 s2 b2 A2 n2 c2 s2' b2' A2' n2' c2' r := (by repeat (first | with_reducible exact v2_1 | with_reducible refine RRV.below ?_ hB2 | with_reducible refine RRV.kp ?_ (Kp.refl _ _).drew)); have a1_2 : ww2.heap[w.heap.size]? = some (.cells #[.int .i64 s1, .bool b1, .slice A1 n1 c1, .int .i64 s1', .bool b1', .slice A1' n1' c1'] 51 (0, 0)) := (by repeat (first | with_reducible exact a1_1 | with_reducible refine blk_below ?_ hB2 | with_reducible refine blk_drew ?_)); have a2_2 : ww2.heap[w.heap.size + 1]? = some (.cells #[.int .i64 s2, .bool b2, .slice A2 n2 c2, .int .i64 s2', .bool b2', .slice A2' n2' c2'] 51 (0, 0)) := (by repeat (first | with_reducible exact a2_1 | with_reducible refine blk_below ?_ hB2 | with_reducible refine blk_drew ?_)); have a3_2 : ww2.heap[w.heap.size + 1 + 1]? = some (.cells #[.int .i64 0, .bool false, .slice none 0 0, .int .i64 0, .bool false, .slice none 0 0] 51 (0, 0)) := (by repeat (first | with_reducible exact a3_1 | with_reducible refine blk_below ?_ hB2 | with_reducible refine blk_drew ?_)); have t3_2 : RRV ww2 s3 b3 A3 n3 c3 s3' b3' A3' n3' c3' (-r) := (by repeat (first | with_reducible exact t3_1 | with_reducible refine RRV.below ?_ hB2 | with_reducible refine RRV.kp ?_ (Kp.refl _ _).drew)); have HB_2 : Below w.heap.size w ww2 := (by repeat (first | with_reducible exact HB_1 | with_reducible refine bl_then ?_ hB2 | with_reducible refine bl_drew ?_)); have P2 := j6 (cx6 (a1_2)) (cx6 (a2_2)); have hE := Lib.hid (putRR tR a3_2 HB_2 (by omega)); obtain ⟨⟨o1, o2, o3, o4, o5, o6⟩, o7, o8, o9, o10, o11, o12⟩ := bx6 a3_2) | (go_at_call 131; refine (rrminus_calls s2 b2 A2 n2 c2 s2' b2' A2' n2' c2' r _ (by repeat (first | with_reducible exact v2_0 | with_reducible refine RRV.kp ?_ (Kp.refl _ _).drew))).mono ?_; rintro e ww1 ⟨⟨s3, b3, A3, n3, c3, s3', b3', A3', n3', c3', rfl, t3_1⟩, hB1⟩; have v1_1 : RRV ww1 s1 b1 A1 n1 c1 s1' b1' A1' n1' c1' q := (by repeat (first | with_reducible exact v1_0 | with_reducible refine RRV.below ?_ hB1 | with_reducible refine RRV.kp ?_ (Kp.refl _ _).drew)); have v2_1 : RRV ww1 s2 b2 A2 n2 c2 s2' b2' A2' n2' c2' r := (by repeat (first | with_reducible exact v2_0 | with_reducible refine RRV.below ?_ hB1 | with_reducible refine RRV.kp ?_ (Kp.refl _ _).drew)); have a1_1 : ww1.heap[w.heap.size]? = some (.cells #[.int .i64 s1, .bool b1, .slice A1 n1 c1, .int .i64 s1', .bool b1', .slice A1' n1' c1'] 51 (0, 0)) := (by repeat (first | with_reducible exact a1_0 | with_reducible refine blk_below ?_ hB1 | with_reducible refine blk_drew ?_)); have a2_1 : ww1.heap[w.heap.size + 1]? = some (.cells #[.int .i64 s2, .bool b2, .slice A2 n2 c2, .int .i64 s2', .bool b2', .slice A2' n2' c2'] 51 (0, 0)) := (by repeat (first | with_reducible exact a2_0 | with_reducible refine blk_below ?_ hB1 | with_reducible refine blk_drew ?_)); have a3_1 : ww1.heap[w.heap.size + 1 + 1]? = some (.cells #[.int .i64 0, .bool false, .slice none 0 0, .int .i64 0, .bool false, .slice none 0 0] 51 (0, 0)) := (by repeat (first | with_reducible exact a3_0 | with_reducible refine blk_below ?_ hB1 | with_reducible refine blk_drew ?_)); have HB_1 : Below w.heap.size w ww1 := (by repeat (first | with_reducible exact HB_0 | with_reducible refine bl_then ?_ hB1 | with_reducible refine bl_drew ?_)); have P1 := j6 (cx6 (a1_1)) (cx6 (a2_1))) | fail)
  all_goals
    go_wp2
    refine bodyPost_ret (results_cell_row rfl _ _ (w.heap.size + 1 + 1) 51 #[.int .i64 sR, .bool bR, .slice AR nR cR, .int .i64 sR', .bool bR', .slice AR' nR' cR'] (0, 0) _ rfl hE.out.2.2 Tryz.underlying51 rfl (by kernel_rfl)) rfl ?_
    exact ⟨⟨_, _, _, _, _, _, _, _, _, _, rfl, hE.out.1⟩, hE.out.2.1⟩

set_option maxHeartbeats 800000 in
theorem rrsign_calls (s1 : Int) (b1 : Bool) (A1 : Option Addr) (n1 c1 : Nat) (s1' : Int) (b1' : Bool) (A1' : Option Addr) (n1' c1' : Nat) (q : Rat) (w : World) (h1 : RRV w s1 b1 A1 n1 c1 s1' b1' A1' n1' c1' q) :
    Calls Tryz.prog 61 #[.agg #[.int .i64 s1, .bool b1, .slice A1 n1 c1, .int .i64 s1', .bool b1', .slice A1' n1' c1']] w fun e w' => e = .returned (.int .i64 q.num.sign) ∧ Below w.heap.size w w' := by
  go_enter Tryz.func61, Tryz.ntmps61
  go_wp2_with fail
  have B0 := bl_alloc (Below.refl w.heap.size w) (.cells #[.int .i64 s1, .bool b1, .slice A1 n1 c1, .int .i64 s1', .bool b1', .slice A1' n1' c1'] 51)
  have a1 : (w.alloc (.cells #[.int .i64 s1, .bool b1, .slice A1 n1 c1, .int .i64 s1', .bool b1', .slice A1' n1' c1'] 51)).heap[w.heap.size]? = some (.cells #[.int .i64 s1, .bool b1, .slice A1 n1 c1, .int .i64 s1', .bool b1', .slice A1' n1' c1'] 51 (0, 0)) := blk_at _ rfl
  replace h1 := h1.below B0
  generalize w.alloc (.cells #[.int .i64 s1, .bool b1, .slice A1 n1 c1, .int .i64 s1', .bool b1', .slice A1' n1' c1'] 51) = W0 at *
  refine (rsign_int_calls s1 b1 A1 n1 c1 q.num _ h1.1).mono ?_
  rintro e w1 ⟨rfl, hB1⟩
  replace B0 := bl_then B0 hB1
  go_wp2
  go_ret
  exact ⟨rfl, B0⟩

set_option maxHeartbeats 4000000 in
set_option maxRecDepth 100000 in
theorem rrcmp_calls (s1 : Int) (b1 : Bool) (A1 : Option Addr) (n1 c1 : Nat) (s1' : Int) (b1' : Bool) (A1' : Option Addr) (n1' c1' : Nat) (q : Rat) (s2 : Int) (b2 : Bool) (A2 : Option Addr) (n2 c2 : Nat) (s2' : Int) (b2' : Bool) (A2' : Option Addr) (n2' c2' : Nat) (r : Rat) (w : World) (h1 : RRV w s1 b1 A1 n1 c1 s1' b1' A1' n1' c1' q) (h2 : RRV w s2 b2 A2 n2 c2 s2' b2' A2' n2' c2' r) (k : Nat) (z1 : SzR k q) (z2 : SzR k r) (hk : k ≤ 9000000000) :
    Calls Tryz.prog 34 #[.agg #[.int .i64 s1, .bool b1, .slice A1 n1 c1, .int .i64 s1', .bool b1', .slice A1' n1' c1'], .agg #[.int .i64 s2, .bool b2, .slice A2 n2 c2, .int .i64 s2', .bool b2', .slice A2' n2' c2']] w fun e w' => e = .returned (.int .i64 (q - r).num.sign) ∧ Below w.heap.size w w' := by
  go_enter Tryz.func34, Tryz.ntmps34
  go_wp2_with fail
  have B0 := bl_alloc (bl_alloc (Below.refl w.heap.size w) (.cells #[.int .i64 s1, .bool b1, .slice A1 n1 c1, .int .i64 s1', .bool b1', .slice A1' n1' c1'] 51)) (.cells #[.int .i64 s2, .bool b2, .slice A2 n2 c2, .int .i64 s2', .bool b2', .slice A2' n2' c2'] 51)
  have a1 : ((w.alloc (.cells #[.int .i64 s1, .bool b1, .slice A1 n1 c1, .int .i64 s1', .bool b1', .slice A1' n1' c1'] 51)).alloc (.cells #[.int .i64 s2, .bool b2, .slice A2 n2 c2, .int .i64 s2', .bool b2', .slice A2' n2' c2'] 51)).heap[w.heap.size]? = some (.cells #[.int .i64 s1, .bool b1, .slice A1 n1 c1, .int .i64 s1', .bool b1', .slice A1' n1' c1'] 51 (0, 0)) := blk_alloc (blk_at _ rfl) _
  have a2 : ((w.alloc (.cells #[.int .i64 s1, .bool b1, .slice A1 n1 c1, .int .i64 s1', .bool b1', .slice A1' n1' c1'] 51)).alloc (.cells #[.int .i64 s2, .bool b2, .slice A2 n2 c2, .int .i64 s2', .bool b2', .slice A2' n2' c2'] 51)).heap[w.heap.size + 1]? = some (.cells #[.int .i64 s2, .bool b2, .slice A2 n2 c2, .int .i64 s2', .bool b2', .slice A2' n2' c2'] 51 (0, 0)) := blk_at _ (by simp)
  replace h1 := h1.below B0
  replace h2 := h2.below B0
  generalize (w.alloc (.cells #[.int .i64 s1, .bool b1, .slice A1 n1 c1, .int .i64 s1', .bool b1', .slice A1' n1' c1'] 51)).alloc (.cells #[.int .i64 s2, .bool b2, .slice A2 n2 c2, .int .i64 s2', .bool b2', .slice A2' n2' c2'] 51) = W0 at *
  refine (rrless_calls s1 b1 A1 n1 c1 s1' b1' A1' n1' c1' q s2 b2 A2 n2 c2 s2' b2' A2' n2' c2' r _ h1 h2 k z1 z2 hk).mono ?_
  rintro e w1 ⟨⟨s3, b3, A3, n3, c3, s3', b3', A3', n3', c3', rfl, h3⟩, hB1⟩
  replace B0 := bl_then B0 hB1
  go_wp2_with fail
  refine (rrsign_calls s3 b3 A3 n3 c3 s3' b3' A3' n3' c3' (q - r) _ h3).mono ?_
  rintro e w2 ⟨rfl, hB2⟩
  replace B0 := bl_then B0 hB2
  go_wp2
  go_ret
  exact ⟨rfl, B0⟩

set_option maxHeartbeats 4000000 in
set_option maxRecDepth 100000 in
theorem rrwhole_calls (m : Int) (w : World) (h0 : -9223372036854775808 ≤ m) (h1 : m ≤ 9223372036854775807) :
    Calls Tryz.prog 26 #[.int .i64 m] w fun e w' => RRatR e w' (m : Rat) ∧ Below w.heap.size w w' := by
  go_enter Tryz.func26, Tryz.ntmps26
  go_wp2_with fail
  have B0 := bl_alloc (Below.refl w.heap.size w) (.cells #[.int .i64 0, .bool false, .slice none 0 0, .int .i64 0, .bool false, .slice none 0 0] 51)
  have a1 : (w.alloc (.cells #[.int .i64 0, .bool false, .slice none 0 0, .int .i64 0, .bool false, .slice none 0 0] 51)).heap[w.heap.size]? = some (.cells #[.int .i64 0, .bool false, .slice none 0 0, .int .i64 0, .bool false, .slice none 0 0] 51 (0, 0)) := blk_at _ rfl
  generalize w.alloc (.cells #[.int .i64 0, .bool false, .slice none 0 0, .int .i64 0, .bool false, .slice none 0 0] 51) = W0 at *
  refine (rof_calls m _ h0 h1).mono ?_
  rintro e w1 ⟨⟨s1, b1, A1, n1, c1, rfl, g1⟩, hB1⟩
  replace a1 := blk_below a1 hB1
  replace B0 := bl_then B0 hB1
  clear hB1
  go_wp2_with fail
  refine (rof_calls 1 _ (by omega) (by omega)).mono ?_
  rintro e w2 ⟨⟨s1', b1', A1', n1', c1', rfl, g2⟩, hB2⟩
  replace a1 := blk_below a1 hB2
  replace B0 := bl_then B0 hB2
  replace g1 := g1.below hB2
  clear hB2
  have hV : RRV w2 s1 b1 A1 n1 c1 s1' b1' A1' n1' c1' (m : Rat) := ⟨by rw [Rat.num_intCast]; exact g1, by rw [Rat.den_intCast]; exact g2⟩
  have hE := Lib.hid (putRR hV a1 B0 (by omega))
  obtain ⟨⟨o1, o2, o3, o4, o5, o6⟩, o7, o8, o9, o10, o11, o12⟩ := bx6 a1
  go_wp2
  refine bodyPost_ret (results_cell_row rfl _ _ (w.heap.size) 51 #[.int .i64 s1, .bool b1, .slice A1 n1 c1, .int .i64 s1', .bool b1', .slice A1' n1' c1'] (0, 0) _ rfl hE.out.2.2 Tryz.underlying51 rfl (by kernel_rfl)) rfl ?_
  exact ⟨⟨_, _, _, _, _, _, _, _, _, _, rfl, hE.out.1⟩, hE.out.2.1⟩
end Go.Proofs.YtloplmmnmehkmaaGreat

namespace Go.Proofs.YtloplmmnmehkmaaGreat
open Go.RowKit

theorem num_sz {t l : Int} (h : OkN t l) : SzR 64 (Rat.divInt t l) ∧ (Rat.divInt t l).num = t ∧ ((Rat.divInt t l).den : Int) = l := by
  obtain ⟨h1, h2, h3, h4, h5⟩ := h
  have e1 := divInt_num (x := t) (y := l) (by omega)
  have e2 := divInt_den (x := t) (y := l) (by omega)
  rw [h5, Int.sign_eq_one_of_pos (by omega)] at e1 e2
  simp at e1 e2
  refine ⟨⟨?_, ?_⟩, e1, e2⟩
  · rw [e1]; exact Sz.small (by omega) (by omega)
  · rw [e2]; exact Sz.small (by omega) (by omega)

theorem cx2 {w : World} {g : Nat} {t : TypeId} {a b : Value} (h : w.heap[g]? = some (.cells #[a, b] t (0, 0))) : w.cell? ⟨g, 0, none⟩ = some a ∧ w.cell? ⟨g, 1, none⟩ = some b := ⟨(bx2 h).1, (bx2 h).2.1⟩

set_option maxHeartbeats 4000000 in
set_option maxRecDepth 100000 in
theorem rto_calls (t l : Int) (w : World) (ok : OkN t l) :
    Calls Tryz.prog 28 #[.agg #[.int .i64 t, .int .i64 l]] w fun e w' => RRatR e w' (Rat.divInt t l) ∧ Below w.heap.size w w' := by
  have N := num_sz ok
  have HN := Lib.hid N.2
  have okH := Lib.hid ok
  clear N ok
  generalize Rat.divInt t l = q at *
  go_enter Tryz.func28, Tryz.ntmps28
  go_wp2_with fail
  have B0 := bl_alloc (bl_alloc (Below.refl w.heap.size w) (.cells #[.int .i64 t, .int .i64 l] 56)) (.cells #[.int .i64 0, .bool false, .slice none 0 0, .int .i64 0, .bool false, .slice none 0 0] 51)
  have a1 : ((w.alloc (.cells #[.int .i64 t, .int .i64 l] 56)).alloc (.cells #[.int .i64 0, .bool false, .slice none 0 0, .int .i64 0, .bool false, .slice none 0 0] 51)).heap[w.heap.size]? = some (.cells #[.int .i64 t, .int .i64 l] 56 (0, 0)) := blk_alloc (blk_at _ rfl) _
  have a2 : ((w.alloc (.cells #[.int .i64 t, .int .i64 l] 56)).alloc (.cells #[.int .i64 0, .bool false, .slice none 0 0, .int .i64 0, .bool false, .slice none 0 0] 51)).heap[w.heap.size + 1]? = some (.cells #[.int .i64 0, .bool false, .slice none 0 0, .int .i64 0, .bool false, .slice none 0 0] 51 (0, 0)) := blk_at _ (by simp)
  generalize (w.alloc (.cells #[.int .i64 t, .int .i64 l] 56)).alloc (.cells #[.int .i64 0, .bool false, .slice none 0 0, .int .i64 0, .bool false, .slice none 0 0] 51) = W0 at *
  have N13 := Lib.hid (show w.heap.size ≠ w.heap.size + 1 by omega)
  have a1_0 := a1
  have a2_0 := a2
  have HB_0 := B0
  obtain ⟨p1, p2, p3, p4⟩ := bx2 a1
  go_region_held3 (fun W => W.cell? ⟨w.heap.size, 0, none⟩ = some (Value.int .i64 t) ∧ W.cell? ⟨w.heap.size, 1, none⟩ = some (Value.int .i64 l)) (first | with_reducible exact P2 | with_reducible exact P1 | with_reducible exact (cx2 (blk_drew a1_0)) | with_reducible exact (cx2 (blk_far6 (a1_2) N13.out _ _ _ _ _ _)) | go_keep) (first | (have _hh := HB_1; go_at_call 76; refine (rof_calls l _ (by have := okH.out.1; omega) (by have := okH.out.2; omega)).mono ?_; rintro e ww2 ⟨⟨s1', b1', A1', n1', c1', rfl, tb_2⟩, hB2⟩; have a1_2 : ww2.heap[w.heap.size]? = some (.cells #[.int .i64 t, .int .i64 l] 56 (0, 0)) := (by repeat (first | with_reducible exact a1_1 | with_reducible refine blk_below ?_ hB2 | with_reducible refine blk_drew ?_)); have a2_2 : ww2.heap[w.heap.size + 1]? = some (.cells #[.int .i64 0, .bool false, .slice none 0 0, .int .i64 0, .bool false, .slice none 0 0] 51 (0, 0)) := (by repeat (first | with_reducible exact a2_1 | with_reducible refine blk_below ?_ hB2 | with_reducible refine blk_drew ?_)); have ta_2 : RV ww2 s1 b1 A1 n1 c1 t := (by repeat (first | with_reducible exact ta_1 | with_reducible refine RV.below ?_ hB2 | with_reducible refine RV.kp ?_ (Kp.refl _ _).drew)); have HB_2 : Below w.heap.size w ww2 := (by repeat (first | with_reducible exact HB_1 | with_reducible refine bl_then ?_ hB2 | with_reducible refine bl_drew ?_)); have P2 := cx2 (a1_2); have tR : RRV ww2 s1 b1 A1 n1 c1 s1' b1' A1' n1' c1' q := ⟨(by rw [HN.out.1]; exact ta_2), (by rw [HN.out.2]; exact tb_2)⟩; have hE := Lib.hid (putRR tR a2_2 HB_2 (by omega)); obtain ⟨⟨o1, o2, o3, o4, o5, o6⟩, o7, o8, o9, o10, o11, o12⟩ := bx6 a2_2) | (go_at_call_of 76 (Value.int .i64 t); refine (rof_calls t _ (by have := okH.out.2.2; omega) (by have := okH.out.2.2; omega)).mono ?_; rintro e ww1 ⟨⟨s1, b1, A1, n1, c1, rfl, ta_1⟩, hB1⟩; have a1_1 : ww1.heap[w.heap.size]? = some (.cells #[.int .i64 t, .int .i64 l] 56 (0, 0)) := (by repeat (first | with_reducible exact a1_0 | with_reducible refine blk_below ?_ hB1 | with_reducible refine blk_drew ?_)); have a2_1 : ww1.heap[w.heap.size + 1]? = some (.cells #[.int .i64 0, .bool false, .slice none 0 0, .int .i64 0, .bool false, .slice none 0 0] 51 (0, 0)) := (by repeat (first | with_reducible exact a2_0 | with_reducible refine blk_below ?_ hB1 | with_reducible refine blk_drew ?_)); have HB_1 : Below w.heap.size w ww1 := (by repeat (first | with_reducible exact HB_0 | with_reducible refine bl_then ?_ hB1 | with_reducible refine bl_drew ?_)); have P1 := cx2 (a1_1)) | fail)
  all_goals
    go_wp2
    refine bodyPost_ret (results_cell_row rfl _ _ (w.heap.size + 1) 51 #[.int .i64 s1, .bool b1, .slice A1 n1 c1, .int .i64 s1', .bool b1', .slice A1' n1' c1'] (0, 0) _ rfl hE.out.2.2 Tryz.underlying51 rfl (by kernel_rfl)) rfl ?_
    exact ⟨⟨_, _, _, _, _, _, _, _, _, _, rfl, hE.out.1⟩, hE.out.2.1⟩

set_option maxHeartbeats 8000000 in
set_option maxRecDepth 100000 in
theorem rvalid_calls (t l : Int) (w : World) (h0 : -9223372036854775808 ≤ t) (h1 : t ≤ 9223372036854775807) (h2 : -9223372036854775808 ≤ l) (h3 : l ≤ 9223372036854775807) :
    Calls Tryz.prog 112 #[.agg #[.int .i64 t, .int .i64 l]] w fun e w' => e = .returned (.bool (decide (OkN t l))) ∧ Below w.heap.size w w' := by
  by_cases hr : 1 ≤ l ∧ l ≤ 1152921504606846976 ∧ t ≤ 1152921504606846976 ∧ -1152921504606846976 ≤ t
  · obtain ⟨r1, r2, r3, r4⟩ := hr
    have hgl : (Int.gcd t l : Int) ≤ l := Int.le_of_dvd (by omega) (Int.gcd_dvd_right ..)
    have hg0 : (0 : Int) ≤ (Int.gcd t l : Int) := by omega
    have hd : decide (OkN t l) = (((Int.gcd t l : Int) - 1).sign == 0) := by
      by_cases e : Int.gcd t l = 1
      · rw [decide_eq_true (show OkN t l from ⟨r1, r2, r3, r4, e⟩), e]; rfl
      · rw [decide_eq_false (fun h : OkN t l => e h.2.2.2.2)]
        symm
        rw [beq_eq_false_iff_ne]
        intro h
        rw [Int.sign_eq_zero_iff_zero] at h
        omega
    rw [hd]
    clear hd
    generalize hgg : (Int.gcd t l : Int) = gg at *
    have HGG := Lib.hid hgg
    clear hgg
    go_enter Tryz.func112, Tryz.ntmps112
    go_wp2_with fail
    have B0 := bl_alloc (Below.refl w.heap.size w) (.cells #[.int .i64 t, .int .i64 l] 56)
    have a1 : (w.alloc (.cells #[.int .i64 t, .int .i64 l] 56)).heap[w.heap.size]? = some (.cells #[.int .i64 t, .int .i64 l] 56 (0, 0)) := blk_at _ rfl
    generalize w.alloc (.cells #[.int .i64 t, .int .i64 l] 56) = W0 at *
    have a1_0 := a1
    have HB_0 := B0
    obtain ⟨p1, p2, p3, p4⟩ := bx2 a1
    go_upto_region 3 with (fail)
    go_region_held3 (fun W => W.cell? ⟨w.heap.size, 0, none⟩ = some (Value.int .i64 t) ∧ W.cell? ⟨w.heap.size, 1, none⟩ = some (Value.int .i64 l)) (first | with_reducible exact P5 | with_reducible exact P4 | with_reducible exact P3 | with_reducible exact P2 | with_reducible exact P1 | with_reducible exact (cx2 (blk_drew a1_0)) | go_keep) (first | (have _hh := HB_4; go_at_call 111; refine (ricmp_calls s3 b3 A3 n3 c3 gg s4 b4 A4 n4 c4 1 _ (by repeat (first | with_reducible exact tc_4 | with_reducible refine RV.kp ?_ (Kp.refl _ _).drew)) (by repeat (first | with_reducible exact td_4 | with_reducible refine RV.kp ?_ (Kp.refl _ _).drew)) 64 (Sz.small (by omega) (by omega)) (Sz.small (by omega) (by omega)) (by omega)).mono ?_; rintro e ww5 ⟨rfl, hB5⟩; have a1_5 : ww5.heap[w.heap.size]? = some (.cells #[.int .i64 t, .int .i64 l] 56 (0, 0)) := (by repeat (first | with_reducible exact a1_4 | with_reducible refine blk_below ?_ hB5 | with_reducible refine blk_drew ?_)); have ta_5 : RV ww5 s1 b1 A1 n1 c1 t := (by repeat (first | with_reducible exact ta_4 | with_reducible refine RV.below ?_ hB5 | with_reducible refine RV.kp ?_ (Kp.refl _ _).drew)); have tb_5 : RV ww5 s2 b2 A2 n2 c2 l := (by repeat (first | with_reducible exact tb_4 | with_reducible refine RV.below ?_ hB5 | with_reducible refine RV.kp ?_ (Kp.refl _ _).drew)); have tc_5 : RV ww5 s3 b3 A3 n3 c3 gg := (by repeat (first | with_reducible exact tc_4 | with_reducible refine RV.below ?_ hB5 | with_reducible refine RV.kp ?_ (Kp.refl _ _).drew)); have td_5 : RV ww5 s4 b4 A4 n4 c4 1 := (by repeat (first | with_reducible exact td_4 | with_reducible refine RV.below ?_ hB5 | with_reducible refine RV.kp ?_ (Kp.refl _ _).drew)); have HB_5 : Below w.heap.size w ww5 := (by repeat (first | with_reducible exact HB_4 | with_reducible refine bl_then ?_ hB5 | with_reducible refine bl_drew ?_)); have P5 := cx2 (a1_5)) | (have _hh := HB_3; go_at_call 76; refine (rof_calls 1 _ (by omega) (by omega)).mono ?_; rintro e ww4 ⟨⟨s4, b4, A4, n4, c4, rfl, td_4⟩, hB4⟩; have a1_4 : ww4.heap[w.heap.size]? = some (.cells #[.int .i64 t, .int .i64 l] 56 (0, 0)) := (by repeat (first | with_reducible exact a1_3 | with_reducible refine blk_below ?_ hB4 | with_reducible refine blk_drew ?_)); have ta_4 : RV ww4 s1 b1 A1 n1 c1 t := (by repeat (first | with_reducible exact ta_3 | with_reducible refine RV.below ?_ hB4 | with_reducible refine RV.kp ?_ (Kp.refl _ _).drew)); have tb_4 : RV ww4 s2 b2 A2 n2 c2 l := (by repeat (first | with_reducible exact tb_3 | with_reducible refine RV.below ?_ hB4 | with_reducible refine RV.kp ?_ (Kp.refl _ _).drew)); have tc_4 : RV ww4 s3 b3 A3 n3 c3 gg := (by repeat (first | with_reducible exact tc_3 | with_reducible refine RV.below ?_ hB4 | with_reducible refine RV.kp ?_ (Kp.refl _ _).drew)); have HB_4 : Below w.heap.size w ww4 := (by repeat (first | with_reducible exact HB_3 | with_reducible refine bl_then ?_ hB4 | with_reducible refine bl_drew ?_)); have P4 := cx2 (a1_4)) | (have _hh := HB_2; go_at_call 121; refine (rigcd_calls s1 b1 A1 n1 c1 t s2 b2 A2 n2 c2 l _ (by repeat (first | with_reducible exact ta_2 | with_reducible refine RV.kp ?_ (Kp.refl _ _).drew)) (by repeat (first | with_reducible exact tb_2 | with_reducible refine RV.kp ?_ (Kp.refl _ _).drew)) 64 (Sz.small (by omega) (by omega)) (Sz.small (by omega) (by omega)) (by omega)).mono ?_; rintro e ww3 ⟨⟨s3, b3, A3, n3, c3, rfl, tc_3⟩, hB3⟩; rw [HGG.out] at tc_3; have a1_3 : ww3.heap[w.heap.size]? = some (.cells #[.int .i64 t, .int .i64 l] 56 (0, 0)) := (by repeat (first | with_reducible exact a1_2 | with_reducible refine blk_below ?_ hB3 | with_reducible refine blk_drew ?_)); have ta_3 : RV ww3 s1 b1 A1 n1 c1 t := (by repeat (first | with_reducible exact ta_2 | with_reducible refine RV.below ?_ hB3 | with_reducible refine RV.kp ?_ (Kp.refl _ _).drew)); have tb_3 : RV ww3 s2 b2 A2 n2 c2 l := (by repeat (first | with_reducible exact tb_2 | with_reducible refine RV.below ?_ hB3 | with_reducible refine RV.kp ?_ (Kp.refl _ _).drew)); have HB_3 : Below w.heap.size w ww3 := (by repeat (first | with_reducible exact HB_2 | with_reducible refine bl_then ?_ hB3 | with_reducible refine bl_drew ?_)); have P3 := cx2 (a1_3)) | (have _hh := HB_1; go_at_call_of 76 (Value.int .i64 l); refine (rof_calls l _ h2 h3).mono ?_; rintro e ww2 ⟨⟨s2, b2, A2, n2, c2, rfl, tb_2⟩, hB2⟩; have a1_2 : ww2.heap[w.heap.size]? = some (.cells #[.int .i64 t, .int .i64 l] 56 (0, 0)) := (by repeat (first | with_reducible exact a1_1 | with_reducible refine blk_below ?_ hB2 | with_reducible refine blk_drew ?_)); have ta_2 : RV ww2 s1 b1 A1 n1 c1 t := (by repeat (first | with_reducible exact ta_1 | with_reducible refine RV.below ?_ hB2 | with_reducible refine RV.kp ?_ (Kp.refl _ _).drew)); have HB_2 : Below w.heap.size w ww2 := (by repeat (first | with_reducible exact HB_1 | with_reducible refine bl_then ?_ hB2 | with_reducible refine bl_drew ?_)); have P2 := cx2 (a1_2)) | (go_at_call_of 76 (Value.int .i64 t); refine (rof_calls t _ h0 h1).mono ?_; rintro e ww1 ⟨⟨s1, b1, A1, n1, c1, rfl, ta_1⟩, hB1⟩; have a1_1 : ww1.heap[w.heap.size]? = some (.cells #[.int .i64 t, .int .i64 l] 56 (0, 0)) := (by repeat (first | with_reducible exact a1_0 | with_reducible refine blk_below ?_ hB1 | with_reducible refine blk_drew ?_)); have HB_1 : Below w.heap.size w ww1 := (by repeat (first | with_reducible exact HB_0 | with_reducible refine bl_then ?_ hB1 | with_reducible refine bl_drew ?_)); have P1 := cx2 (a1_1)) | fail)
    all_goals
      go_wp2
      go_ret
      exact ⟨rfl, HB_5⟩
  · have hd : decide (OkN t l) = false := by
      rw [decide_eq_false]
      intro h
      exact hr ⟨h.1, h.2.1, h.2.2.1, h.2.2.2.1⟩
    rw [hd]
    clear hd
    rcases (show l < 1 ∨ 1 ≤ l ∧ 1152921504606846976 < l ∨ 1 ≤ l ∧ l ≤ 1152921504606846976 ∧ 1152921504606846976 < t ∨ 1 ≤ l ∧ l ≤ 1152921504606846976 ∧ t ≤ 1152921504606846976 ∧ t < -1152921504606846976 by omega) with h | ⟨h, h'⟩ | ⟨h, h', h''⟩ | ⟨h, h', h'', h4⟩
    all_goals
      clear hr
      go_enter Tryz.func112, Tryz.ntmps112
      go_wp2
      go_ret
      exact ⟨rfl, bl_alloc (Below.refl _ _) _⟩






end Go.Proofs.YtloplmmnmehkmaaGreat
