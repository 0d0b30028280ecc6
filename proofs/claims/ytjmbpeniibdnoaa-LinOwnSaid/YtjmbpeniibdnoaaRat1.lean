/- exact: rationals. -/
import Derived.Test.YtjmbpeniibdnoaaRatMath
set_option linter.unusedVariables false
set_option linter.unusedSimpArgs false
namespace Go.Proofs.Ytjmbpeniibdnoaa
open Go.RowKit

/-- A rational stored into a box of the call's own. -/
theorem putRat {w W : World} {v : Int} {A : Option Addr} {n c : Nat} {v' : Int} {A' : Option Addr} {n' c' : Nat} {q : Rat} {g : Nat} {a b d e : Value} (h : RatV W v A n c v' A' n' c' q)
    (hb : W.heap[g]? = some (.cells #[a, b, d, e] 63 (0, 0))) (hB : Below w.heap.size w W) (hg : w.heap.size ≤ g) :
    let W' := (((W.setCell ⟨g, 0, none⟩ (.int .i64 v)).setCell ⟨g, 1, none⟩ (.slice A n c)).setCell ⟨g, 2, none⟩ (.int .i64 v')).setCell ⟨g, 3, none⟩ (.slice A' n' c')
    RatV W' v A n c v' A' n' c' q ∧ Below w.heap.size w W' ∧ W'.heap[g]? = some (.cells #[.int .i64 v, .slice A n c, .int .i64 v', .slice A' n' c'] 63 (0, 0)) := by
  refine ⟨h.kp ((((Kp.refl _ _).set (p := ⟨g, 0, none⟩) hb (by decide) _).set (p := ⟨g, 1, none⟩) (blk_set hb 0 _) (by decide) _).set (p := ⟨g, 2, none⟩) (blk_set (blk_set hb 0 _) 1 _) (by decide) _ |>.set (p := ⟨g, 3, none⟩) (blk_set (blk_set (blk_set hb 0 _) 1 _) 2 _) (by decide) _), bl_set (bl_set (bl_set (bl_set hB (by simpa using hg) _) (by simpa using hg) _) (by simpa using hg) _) (by simpa using hg) _, blk_set4 hb _ _ _ _⟩

set_option maxHeartbeats 400000 in
theorem one_calls (w : World) : Calls Try.prog 62 #[] w fun e w' => IntR e w' 1 ∧ Below w.heap.size w w' := by
  go_enter Try.func62, Try.ntmps62
  go_wp2
  refine bodyPost_ret (results_cell_row rfl _ _ w.heap.size 61 #[.int .i64 1, .slice none 0 0] (0, 0) _ rfl (blk_at _ rfl) Try.underlying61 rfl (by kernel_rfl)) rfl ?_
  exact ⟨⟨_, _, _, _, rfl, IntV.small _ (by omega) (by omega)⟩, bl_alloc (Below.refl _ _) _⟩

set_option maxHeartbeats 1600000 in
set_option maxRecDepth 100000 in
theorem low_calls (v : Int) (A : Option Addr) (n c : Nat) (v' : Int) (A' : Option Addr) (n' c' : Nat) (q : Rat) (w : World) (h : RatV w v A n c v' A' n' c' q) :
    Calls Try.prog 53 #[.agg #[.int .i64 v, .slice A n c, .int .i64 v', .slice A' n' c']] w fun e w' => IntR e w' (q.den : Int) ∧ Below w.heap.size w w' := by
  obtain ⟨h1, z, h2, hz⟩ := h
  go_enter Try.func53, Try.ntmps53
  go_wp2_with fail
  refine (sign_calls v' A' n' c' z _ (h2.kp (((Kp.refl _ _).alloc _).alloc _))).mono ?_
  rintro e w1 ⟨rfl, hB1⟩
  have hbA := blk_below (blk_alloc (blk_at (g := w.heap.size) _ rfl) _) hB1
  have hbR := blk_below (blk_at (g := w.heap.size + 1) _ (by simp)) hB1
  have HB := bl_then (bl_alloc (bl_alloc (Below.refl w.heap.size w) _) _) hB1
  replace h2 := h2.below HB
  clear hB1
  rcases hz with hz | ⟨hz, hq⟩
  · have hs : z.sign = 1 := by rw [Int.sign_eq_one_of_pos (by have := q.den_pos; omega)]
    have HZ := Lib.hid hz
    rw [hs]
    clear hs hz h1
    obtain ⟨⟨p1, p2, p3, p4⟩, p5, p6, p7, p8⟩ := bx4 hbA
    obtain ⟨q1, q2, q3, q4⟩ := bx2 hbR
    have hE := Lib.hid (putInt h2 hbR HB (by omega))
    go_wp2
    refine bodyPost_ret (results_cell_row rfl _ _ (w.heap.size + 1) 61 #[.int .i64 v', .slice A' n' c'] (0, 0) _ rfl hE.out.2.2 Try.underlying61 rfl (by kernel_rfl)) rfl ?_
    exact ⟨⟨_, _, _, _, rfl, by rw [← HZ.out]; exact hE.out.1⟩, hE.out.2.1⟩
  · have hs : z.sign = 0 := by rw [hz]; rfl
    have HQ := Lib.hid hq
    rw [hs]
    clear hs hz hq h1
    go_wp2_with fail
    refine (one_calls _).mono ?_
    rintro e w2 ⟨⟨v2, A2, n2, c2, rfl, hI⟩, hB2⟩
    replace HB := bl_then HB hB2
    replace hbR := blk_below hbR hB2
    obtain ⟨q1, q2, q3, q4⟩ := bx2 hbR
    have hE := Lib.hid (putInt hI hbR HB (by omega))
    go_wp2
    refine bodyPost_ret (results_cell_row rfl _ _ (w.heap.size + 1) 61 #[.int .i64 v2, .slice A2 n2 c2] (0, 0) _ rfl hE.out.2.2 Try.underlying61 rfl (by kernel_rfl)) rfl ?_
    exact ⟨⟨_, _, _, _, rfl, by rw [show (q.den : Int) = 1 by rw [HQ.out]; rfl]; exact hE.out.1⟩, hE.out.2.1⟩

set_option maxHeartbeats 400000 in
theorem top_calls (v : Int) (A : Option Addr) (n c : Nat) (v' : Int) (A' : Option Addr) (n' c' : Nat) (q : Rat) (w : World) (h : RatV w v A n c v' A' n' c' q) :
    Calls Try.prog 52 #[.agg #[.int .i64 v, .slice A n c, .int .i64 v', .slice A' n' c']] w fun e w' => IntR e w' q.num ∧ Below w.heap.size w w' := by
  have h1 := h.1.kp (((Kp.refl _ _).alloc (.cells #[.int .i64 v, .slice A n c, .int .i64 v', .slice A' n' c'] 63)).alloc (.cells #[.int .i64 v, .slice A n c] 61))
  clear h
  go_enter Try.func52, Try.ntmps52
  go_wp2
  refine bodyPost_ret (results_cell_row rfl _ _ (w.heap.size + 1) 61 #[.int .i64 v, .slice A n c] (0, 0) _ rfl (blk_at _ (by simp)) Try.underlying61 rfl (by kernel_rfl)) rfl ?_
  exact ⟨⟨_, _, _, _, rfl, h1⟩, bl_alloc (bl_alloc (Below.refl _ _) _) _⟩

set_option maxHeartbeats 400000 in
theorem rsign_calls (v : Int) (A : Option Addr) (n c : Nat) (v' : Int) (A' : Option Addr) (n' c' : Nat) (q : Rat) (w : World) (h : RatV w v A n c v' A' n' c' q) :
    Calls Try.prog 54 #[.agg #[.int .i64 v, .slice A n c, .int .i64 v', .slice A' n' c']] w fun e w' => e = .returned (.int .i64 q.num.sign) ∧ Below w.heap.size w w' := by
  go_enter Try.func54, Try.ntmps54
  go_wp2_with fail
  refine (sign_calls v A n c q.num _ (h.1.kp ((Kp.refl _ _).alloc _))).mono ?_
  rintro e w1 ⟨rfl, hB1⟩
  have HB := bl_then (bl_alloc (Below.refl w.heap.size w) _) hB1
  go_wp2
  go_ret
  exact ⟨rfl, HB⟩

set_option maxHeartbeats 1600000 in
set_option maxRecDepth 100000 in
theorem rneg_calls (v : Int) (A : Option Addr) (n c : Nat) (v' : Int) (A' : Option Addr) (n' c' : Nat) (q : Rat) (w : World) (h : RatV w v A n c v' A' n' c' q) :
    Calls Try.prog 44 #[.agg #[.int .i64 v, .slice A n c, .int .i64 v', .slice A' n' c']] w fun e w' => RatR e w' (-q) ∧ Below w.heap.size w w' := by
  go_enter Try.func44, Try.ntmps44
  go_wp2_with fail
  have a1 : ((w.alloc (.cells #[.int .i64 v, .slice A n c, .int .i64 v', .slice A' n' c'] 63)).alloc (.cells #[.int .i64 0, .slice none 0 0, .int .i64 0, .slice none 0 0] 63)).heap[w.heap.size]? = some (.cells #[.int .i64 v, .slice A n c, .int .i64 v', .slice A' n' c'] 63 (0, 0)) := blk_alloc (blk_at _ rfl) _
  have a2 : ((w.alloc (.cells #[.int .i64 v, .slice A n c, .int .i64 v', .slice A' n' c'] 63)).alloc (.cells #[.int .i64 0, .slice none 0 0, .int .i64 0, .slice none 0 0] 63)).heap[w.heap.size + 1]? = some (.cells #[.int .i64 0, .slice none 0 0, .int .i64 0, .slice none 0 0] 63 (0, 0)) := blk_at _ (by simp)
  have B2 := bl_alloc (bl_alloc (Below.refl w.heap.size w) (.cells #[.int .i64 v, .slice A n c, .int .i64 v', .slice A' n' c'] 63)) (.cells #[.int .i64 0, .slice none 0 0, .int .i64 0, .slice none 0 0] 63)
  replace h := h.below B2
  generalize (w.alloc (.cells #[.int .i64 v, .slice A n c, .int .i64 v', .slice A' n' c'] 63)).alloc (.cells #[.int .i64 0, .slice none 0 0, .int .i64 0, .slice none 0 0] 63) = W2 at *
  obtain ⟨⟨p1, p2, p3, p4⟩, p5, p6, p7, p8⟩ := bx4 a1
  obtain ⟨⟨q1, q2, q3, q4⟩, q5, q6, q7, q8⟩ := bx4 a2
  go_region_held3 (fun W => W.cell? ⟨w.heap.size, 0, none⟩ = some (.int .i64 v) ∧ W.cell? ⟨w.heap.size, 1, none⟩ = some (.slice A n c) ∧ W.cell? ⟨w.heap.size, 2, none⟩ = some (.int .i64 v') ∧ W.cell? ⟨w.heap.size, 3, none⟩ = some (.slice A' n' c')) (first | exact keep4 hB1 (by assumption) | exact keep4_set1 (by assumption) (by simp) (by simp) (by simp) (by simp) | go_keep) (first | (go_at_call 68; refine (neg_calls v A n c q.num _ (by first | exact h.1 | exact h.1.kp (by exact (Kp.refl _ _).drew))).mono ?_; rintro e w1 ⟨rfl, hB1⟩; have hbR := blk_below (by first | exact a2 | exact blk_drew a2) hB1; obtain ⟨⟨r1, r2, r3, r4⟩, r5, r6, r7, r8⟩ := bx4 hbR))
  all_goals
    have HB := bl_then (by first | exact B2 | exact bl_drew B2) hB1
    have h2 : RatV w1 (-v) A n c v' A' n' c' (-q) := ⟨by rw [Rat.neg_num]; exact ((h.1.kp (by first | exact (Kp.refl _ _).drew | exact Kp.refl _ _)).below hB1).neg, by obtain ⟨z, k1, k2⟩ := h.2; exact ⟨z, (k1.kp (by first | exact (Kp.refl _ _).drew | exact Kp.refl _ _)).below hB1, by rw [Rat.neg_den]; exact k2⟩⟩
    have hE := Lib.hid (putRat h2 hbR HB (by omega))
    clear r1 r2 r3 r4 r5 r6 r7 r8 p1 p2 p3 p4 p5 p6 p7 p8 q1 q2 q3 q4 q5 q6 q7 q8 h h2
    go_wp2
    refine bodyPost_ret (results_cell_row rfl _ _ (w.heap.size + 1) 63 #[.int .i64 (-v), .slice A n c, .int .i64 v', .slice A' n' c'] (0, 0) _ rfl hE.out.2.2 Try.underlying63 rfl (by kernel_rfl)) rfl ?_
    exact ⟨⟨_, _, _, _, _, _, _, _, rfl, hE.out.1⟩, hE.out.2.1⟩

set_option maxHeartbeats 1600000 in
theorem wholei_calls (m : Int) (w : World) (h0 : -9223372036854775808 ≤ m) (h1 : m ≤ 9223372036854775807) :
    Calls Try.prog 37 #[.int .i64 m] w fun e w' => RatR e w' (m : Rat) ∧ Below w.heap.size w w' := by
  go_enter Try.func37, Try.ntmps37
  go_wp2_with fail
  refine (of_calls m _ h0 h1).mono ?_
  rintro e w1 ⟨v, A, n, c, rfl, hI, hB1⟩
  have hbR := blk_below (blk_at (g := w.heap.size) (W := w) (.cells #[.int .i64 0, .slice none 0 0, .int .i64 0, .slice none 0 0] 63) rfl) hB1
  have HB := bl_then (bl_alloc (Below.refl w.heap.size w) _) hB1
  have h2 : RatV w1 v A n c 0 none 0 0 (m : Rat) := ⟨by rw [Rat.num_intCast]; exact hI, 0, IntV.small _ (by omega) (by omega), .inr ⟨rfl, Rat.den_intCast m⟩⟩
  obtain ⟨⟨r1, r2, r3, r4⟩, r5, r6, r7, r8⟩ := bx4 hbR
  have hE := Lib.hid (putRat h2 hbR HB (by omega))
  go_wp2
  refine bodyPost_ret (results_cell_row rfl _ _ w.heap.size 63 #[.int .i64 v, .slice A n c, .int .i64 0, .slice none 0 0] (0, 0) _ rfl hE.out.2.2 Try.underlying63 rfl (by kernel_rfl)) rfl ?_
  exact ⟨⟨_, _, _, _, _, _, _, _, rfl, hE.out.1⟩, hE.out.2.1⟩
set_option maxHeartbeats 1600000 in
theorem whole_calls (v : Int) (A : Option Addr) (n c : Nat) (v' : Int) (A' : Option Addr) (n' c' : Nat) (q : Rat) (w : World) (h : RatV w v A n c v' A' n' c' q) :
    Calls Try.prog 73 #[.agg #[.int .i64 v, .slice A n c, .int .i64 v', .slice A' n' c']] w fun e w' => e = .returned (.bool (decide (q.den = 1))) ∧ Below w.heap.size w w' := by
  obtain ⟨h1, z, h2, hz⟩ := h
  clear h1
  have hdp := q.den_pos
  rcases h2 with ⟨rfl, rfl, rfl, rfl, z0, z1⟩ | ⟨hA, hc, hs, ds, hr, kd, ht, hb, hx⟩
  · have e1 : decide (q.den = 1) = decide (v' ≤ 1) := by
      by_cases e : q.den = 1
      · rw [decide_eq_true e, decide_eq_true (show v' ≤ 1 by omega)]
      · rw [decide_eq_false e, decide_eq_false (show ¬ v' ≤ 1 by omega)]
    rw [e1]
    clear e1 hz hdp
    have qn := fun (w : World) => Lib.run_eql_slice_nil (P := Try.prog) w 59 118 none 0 0 0 0 Try.underlying59
    go_enter Try.func73, Try.ntmps73
    go_wp2
    go_ret
    exact ⟨rfl, bl_alloc (Below.refl _ _) _⟩
  · obtain ⟨a, rfl⟩ : ∃ a, A' = some a := by cases A' with | none => exact absurd rfl hA | some a => exact ⟨a, rfl⟩
    have e1 : decide (q.den = 1) = false := by
      rw [decide_eq_false]
      rcases hs with rfl | rfl <;> omega
    rw [e1]
    clear e1 hz hdp hs hb hx hr kd ht hA
    have qn := fun (w : World) => Lib.run_eql_slice_nil (P := Try.prog) w 59 118 (some a) n' c' 0 0 Try.underlying59
    go_enter Try.func73, Try.ntmps73
    go_wp2
    go_ret
    exact ⟨rfl, bl_alloc (Below.refl _ _) _⟩
end Go.Proofs.Ytjmbpeniibdnoaa
