/- num: Valid, Rat, Out. -/
import Derived.Test.YtjmbpeniibdnoaaRat4
set_option linter.unusedVariables false
set_option linter.unusedSimpArgs false
namespace Go.Proofs.Ytjmbpeniibdnoaa
open Go.RowKit

/-- A valid number: top and low. -/
def OkN (t l : Int) : Prop := 1 ≤ l ∧ l ≤ 1152921504606846976 ∧ t ≤ 1152921504606846976 ∧ -1152921504606846976 ≤ t ∧ Int.gcd t l = 1
instance (t l : Int) : Decidable (OkN t l) := by unfold OkN; infer_instance
theorem keep2_drew {w : World} {a1 a2 : Addr} {x1 x2 : Value} (h1 : w.cell? a1 = some x1) (h2 : w.cell? a2 = some x2) : w.drew.cell? a1 = some x1 ∧ w.drew.cell? a2 = some x2 := ⟨h1, h2⟩

set_option maxHeartbeats 8000000 in
set_option maxRecDepth 100000 in
theorem valid_calls (t l : Int) (w : World) (h0 : -9223372036854775808 ≤ t) (h1 : t ≤ 9223372036854775807) (h2 : -9223372036854775808 ≤ l) (h3 : l ≤ 9223372036854775807) :
    Calls Try.prog 31 #[.agg #[.int .i64 t, .int .i64 l]] w fun e w' => e = .returned (.bool (decide (OkN t l))) ∧ Below w.heap.size w w' := by
  by_cases hr : 1 ≤ l ∧ l ≤ 1152921504606846976 ∧ t ≤ 1152921504606846976 ∧ -1152921504606846976 ≤ t
  · obtain ⟨r1, r2, r3, r4⟩ := hr
    have hgl : (Int.gcd t l : Int) ≤ l := Int.le_of_dvd (by omega) (Int.gcd_dvd_right ..)
    have hg0 : (0 : Int) ≤ (Int.gcd t l : Int) := by omega
    have hd : decide (OkN t l) = ((Int.gcd t l : Int) == 1) := by
      by_cases e : Int.gcd t l = 1
      · rw [decide_eq_true (show OkN t l from ⟨r1, r2, r3, r4, e⟩), e]; rfl
      · rw [decide_eq_false (fun h : OkN t l => e h.2.2.2.2)]
        simp; omega
    rw [hd]
    clear hd
    generalize hgg : (Int.gcd t l : Int) = gg at *
    have HGG := Lib.hid hgg
    clear hgg
    go_enter Try.func31, Try.ntmps31
    go_wp2_with fail
    have B1 := bl_alloc (Below.refl w.heap.size w) (.cells #[.int .i64 t, .int .i64 l] 36)
    have a1 : (w.alloc (.cells #[.int .i64 t, .int .i64 l] 36)).heap[w.heap.size]? = some (.cells #[.int .i64 t, .int .i64 l] 36 (0, 0)) := blk_at _ rfl
    generalize w.alloc (.cells #[.int .i64 t, .int .i64 l] 36) = W1 at *
    obtain ⟨p1, p2, p3, p4⟩ := bx2 a1
    go_region_held3 (fun W => W.cell? ⟨w.heap.size, 0, none⟩ = some (.int .i64 t) ∧ W.cell? ⟨w.heap.size, 1, none⟩ = some (.int .i64 l)) (first | exact keep2 hB4 (by assumption) | exact keep2 hB3 (by assumption) | exact keep2 hB2 (by assumption) | exact keep2 hB1 (by assumption) | exact ⟨p1, p2⟩ | go_keep) (first | (have _hh := tg_3; go_at_call 38; refine (int_yes vg Ag ng cg _ 1152921504606846976 _ tg_3 (by omega) (by omega) (by omega)).mono ?_; rintro e w4 ⟨rfl, hB4⟩; have HB_4 := bl_then HB_3 hB4) | (have _hh := tb_2; go_at_call 59; refine (gcd_calls va Aa na ca t vb Ab nb cb l _ ta_2 tb_2 64 (Sz.small (by omega) (by omega)) (Sz.small (by omega) (by omega)) (by omega)).mono ?_; rintro e w3 ⟨vg, Ag, ng, cg, rfl, tg_3, hB3⟩; rw [HGG.out] at tg_3; have HB_3 := bl_then HB_2 hB3) | (have _hh := ta_1; go_at_call_of 60 (Value.int .i64 l); refine (of_calls l _ h2 h3).mono ?_; rintro e w2 ⟨vb, Ab, nb, cb, rfl, tb_2, hB2⟩; have ta_2 := ta_1.below hB2; have HB_2 := bl_then HB_1 hB2) | (go_at_call_of 60 (Value.int .i64 t); refine (of_calls t _ h0 h1).mono ?_; rintro e w1 ⟨va, Aa, na, ca, rfl, ta_1, hB1⟩; have HB_1 := bl_then (bl_drew B1) hB1))
    all_goals
      go_wp2
      go_ret
      exact ⟨rfl, HB_4⟩
  · have hd : decide (OkN t l) = false := by
      rw [decide_eq_false]
      intro h
      exact hr ⟨h.1, h.2.1, h.2.2.1, h.2.2.2.1⟩
    rw [hd]
    clear hd
    rcases (show l < 1 ∨ 1 ≤ l ∧ 1152921504606846976 < l ∨ 1 ≤ l ∧ l ≤ 1152921504606846976 ∧ 1152921504606846976 < t ∨ 1 ≤ l ∧ l ≤ 1152921504606846976 ∧ t ≤ 1152921504606846976 ∧ t < -1152921504606846976 by omega) with h | ⟨h, h'⟩ | ⟨h, h', h''⟩ | ⟨h, h', h'', h'''⟩
    all_goals
      clear hr
      go_enter Try.func31, Try.ntmps31
      go_wp2
      go_ret
      exact ⟨rfl, bl_alloc (Below.refl _ _) _⟩

theorem keep2_set4 {w : World} {ga g : Nat} {x1 x2 y1 y2 y3 y4 : Value} (h : w.cell? ⟨ga, 0, none⟩ = some x1 ∧ w.cell? ⟨ga, 1, none⟩ = some x2) (ea : ga ≠ g) :
    let W := (((w.setCell ⟨g, 0, none⟩ y1).setCell ⟨g, 1, none⟩ y2).setCell ⟨g, 2, none⟩ y3).setCell ⟨g, 3, none⟩ y4
    W.cell? ⟨ga, 0, none⟩ = some x1 ∧ W.cell? ⟨ga, 1, none⟩ = some x2 :=
  keep2_set1 (keep2_set1 (keep2_set1 (keep2_set1 h ea ea) ea ea) ea ea) ea ea

set_option maxHeartbeats 8000000 in
set_option maxRecDepth 100000 in
theorem rat_calls (t l : Int) (w : World) (h0 : -9223372036854775808 ≤ t) (h1 : t ≤ 9223372036854775807) (h2 : -9223372036854775808 ≤ l) (h3 : l ≤ 9223372036854775807) (hl : l ≠ 0) :
    Calls Try.prog 34 #[.agg #[.int .i64 t, .int .i64 l]] w fun e w' => RatR e w' (Rat.divInt t l) ∧ Below w.heap.size w w' := by
  go_enter Try.func34, Try.ntmps34
  go_wp2_with fail
  have B1 := bl_alloc (bl_alloc (Below.refl w.heap.size w) (.cells #[.int .i64 t, .int .i64 l] 36)) (.cells #[.int .i64 0, .slice none 0 0, .int .i64 0, .slice none 0 0] 63)
  have a1 : ((w.alloc (.cells #[.int .i64 t, .int .i64 l] 36)).alloc (.cells #[.int .i64 0, .slice none 0 0, .int .i64 0, .slice none 0 0] 63)).heap[w.heap.size]? = some (.cells #[.int .i64 t, .int .i64 l] 36 (0, 0)) := blk_alloc (blk_at _ rfl) _
  have a2 : ((w.alloc (.cells #[.int .i64 t, .int .i64 l] 36)).alloc (.cells #[.int .i64 0, .slice none 0 0, .int .i64 0, .slice none 0 0] 63)).heap[w.heap.size + 1]? = some (.cells #[.int .i64 0, .slice none 0 0, .int .i64 0, .slice none 0 0] 63 (0, 0)) := blk_at _ (by simp)
  generalize (w.alloc (.cells #[.int .i64 t, .int .i64 l] 36)).alloc (.cells #[.int .i64 0, .slice none 0 0, .int .i64 0, .slice none 0 0] 63) = W1 at *
  obtain ⟨p1, p2, p3, p4⟩ := bx2 a1
  go_region_held3 (fun W => W.cell? ⟨w.heap.size, 0, none⟩ = some (.int .i64 t) ∧ W.cell? ⟨w.heap.size, 1, none⟩ = some (.int .i64 l)) (first | exact keep2 hB3 (by assumption) | exact keep2 hB2 (by assumption) | exact keep2 hB1 (by assumption) | exact ⟨p1, p2⟩ | exact keep2_set4 (by assumption) (by omega) | go_keep) (first | (have _hh := tb_2; go_at_call 61; refine (ratio_calls va Aa na ca t vb Ab nb cb l _ ta_2 tb_2 64 (Sz.small (by omega) (by omega)) (Sz.small (by omega) (by omega)) (by omega) hl).mono ?_; rintro e w3 ⟨⟨v, A, n, c, v', A', n', c', rfl, hV⟩, hB3⟩; have a2_3 := blk_below a2_2 hB3; have HB_3 := bl_then HB_2 hB3; have hE := Lib.hid (putRat hV a2_3 HB_3 (by omega)); obtain ⟨⟨z1, z2, z3, z4⟩, z5, z6, z7, z8⟩ := bx4 a2_3) | (have _hh := ta_1; go_at_call_of 60 (Value.int .i64 l); refine (of_calls l _ h2 h3).mono ?_; rintro e w2 ⟨vb, Ab, nb, cb, rfl, tb_2, hB2⟩; have ta_2 := ta_1.below hB2; have a2_2 := blk_below a2_1 hB2; have HB_2 := bl_then HB_1 hB2) | (go_at_call_of 60 (Value.int .i64 t); refine (of_calls t _ h0 h1).mono ?_; rintro e w1 ⟨va, Aa, na, ca, rfl, ta_1, hB1⟩; have a2_1 := blk_below (blk_drew a2) hB1; have HB_1 := bl_then (bl_drew B1) hB1))
  all_goals
    go_wp2
    refine bodyPost_ret (results_cell_row rfl _ _ (w.heap.size + 1) 63 #[.int .i64 v, .slice A n c, .int .i64 v', .slice A' n' c'] (0, 0) _ rfl hE.out.2.2 Try.underlying63 rfl (by kernel_rfl)) rfl ?_
    exact ⟨⟨_, _, _, _, _, _, _, _, rfl, hE.out.1⟩, hE.out.2.1⟩

/-- The number that is handed out: top, low, error. -/
def Fits (q : Rat) : Prop := -1152921504606846976 ≤ q.num ∧ q.num ≤ 1152921504606846976 ∧ (q.den : Int) ≤ 1152921504606846976
instance (q : Rat) : Decidable (Fits q) := by unfold Fits; infer_instance
def outT (q : Rat) : Int := if Fits q then q.num else 0
def outL (q : Rat) : Int := if Fits q then (q.den : Int) else 0
def outE (q : Rat) : Int := if Fits q then 0 else 3
/-- A number and an error as a result. -/
def NumR (e : Ending) (t l r : Int) : Prop := e = .returned (.tuple #[.agg #[.int .i64 t, .int .i64 l], .int .i64 r])

set_option maxHeartbeats 8000000 in
set_option maxRecDepth 100000 in
theorem out_calls (v : Int) (A : Option Addr) (n c : Nat) (v' : Int) (A' : Option Addr) (n' c' : Nat) (q : Rat) (w : World) (h : RatV w v A n c v' A' n' c' q) :
    Calls Try.prog 26 #[.agg #[.int .i64 v, .slice A n c, .int .i64 v', .slice A' n' c']] w fun e w' => NumR e (outT q) (outL q) (outE q) ∧ Below w.heap.size w w' := by
  have hdp := q.den_pos
  by_cases hn : -1152921504606846976 ≤ q.num ∧ q.num ≤ 1152921504606846976
  · by_cases hd : (q.den : Int) ≤ 1152921504606846976
    · have hf : Fits q := ⟨hn.1, hn.2, hd⟩
      unfold outT outL outE
      rw [if_pos hf, if_pos hf, if_pos hf]
      clear hf
      go_enter Try.func26, Try.ntmps26
      go_wp2_with fail
      have B2 := bl_alloc (bl_alloc (Below.refl w.heap.size w) (.cells #[.int .i64 v, .slice A n c, .int .i64 v', .slice A' n' c'] 63)) (.cells #[.int .i64 0, .int .i64 0] 36)
      have a1 : ((w.alloc (.cells #[.int .i64 v, .slice A n c, .int .i64 v', .slice A' n' c'] 63)).alloc (.cells #[.int .i64 0, .int .i64 0] 36)).heap[w.heap.size]? = some (.cells #[.int .i64 v, .slice A n c, .int .i64 v', .slice A' n' c'] 63 (0, 0)) := blk_alloc (blk_at _ rfl) _
      have a2 : ((w.alloc (.cells #[.int .i64 v, .slice A n c, .int .i64 v', .slice A' n' c'] 63)).alloc (.cells #[.int .i64 0, .int .i64 0] 36)).heap[w.heap.size + 1]? = some (.cells #[.int .i64 0, .int .i64 0] 36 (0, 0)) := blk_at _ (by simp)
      replace h := h.below B2
      generalize (w.alloc (.cells #[.int .i64 v, .slice A n c, .int .i64 v', .slice A' n' c'] 63)).alloc (.cells #[.int .i64 0, .int .i64 0] 36) = W1 at *
      refine (top_calls v A n c v' A' n' c' q _ h).mono ?_
      rintro e w1 ⟨⟨v1, A1, n1, c1, rfl, hI⟩, hB1⟩
      replace a1 := blk_below a1 hB1
      replace a2 := blk_below a2 hB1
      replace B2 := bl_then B2 hB1
      replace h := h.below hB1
      clear hB1
      go_wp2_with fail
      refine (int_yes v1 A1 n1 c1 q.num 1152921504606846976 _ hI (by omega) hn.2 (by omega)).mono ?_
      rintro e w2 ⟨rfl, hB1⟩
      replace a1 := blk_below a1 hB1
      replace a2 := blk_below a2 hB1
      replace B2 := bl_then B2 hB1
      replace h := h.below hB1
      clear hB1 hI
      obtain ⟨⟨p1, p2, p3, p4⟩, p5, p6, p7, p8⟩ := bx4 a1
      go_wp2_with fail
      refine (low_calls v A n c v' A' n' c' q _ h).mono ?_
      rintro e w3 ⟨⟨v2, A2, n2, c2, rfl, hJ⟩, hB1⟩
      replace a2 := blk_below a2 hB1
      replace B2 := bl_then B2 hB1
      clear hB1 p1 p2 p3 p4 p5 p6 p7 p8 a1 h
      go_wp2_with fail
      refine (int_yes v2 A2 n2 c2 (q.den : Int) 1152921504606846976 _ hJ (by omega) hd (by omega)).mono ?_
      rintro e w4 ⟨rfl, hB1⟩
      replace a2 := blk_below a2 hB1
      replace B2 := bl_then B2 hB1
      clear hB1 hJ hn hd hdp
      obtain ⟨p1, p2, p3, p4⟩ := bx2 a2
      go_wp2
      refine bodyPost_ret (results_cell_tmp_row rfl _ _ (w.heap.size + 1) 36 #[.int .i64 q.num, .int .i64 (q.den : Int)] (0, 0) _ _ rfl (blk_set2 a2 _ _) Try.underlying36 rfl (by kernel_rfl) rfl) rfl ?_
      exact ⟨rfl, bl_set (bl_set B2 (by simp) _) (by simp) _⟩
    · have hf : ¬ Fits q := fun h => hd h.2.2
      unfold outT outL outE
      rw [if_neg hf, if_neg hf, if_neg hf]
      clear hf
      go_enter Try.func26, Try.ntmps26
      go_wp2_with fail
      have B2 := bl_alloc (bl_alloc (Below.refl w.heap.size w) (.cells #[.int .i64 v, .slice A n c, .int .i64 v', .slice A' n' c'] 63)) (.cells #[.int .i64 0, .int .i64 0] 36)
      have a1 : ((w.alloc (.cells #[.int .i64 v, .slice A n c, .int .i64 v', .slice A' n' c'] 63)).alloc (.cells #[.int .i64 0, .int .i64 0] 36)).heap[w.heap.size]? = some (.cells #[.int .i64 v, .slice A n c, .int .i64 v', .slice A' n' c'] 63 (0, 0)) := blk_alloc (blk_at _ rfl) _
      have a2 : ((w.alloc (.cells #[.int .i64 v, .slice A n c, .int .i64 v', .slice A' n' c'] 63)).alloc (.cells #[.int .i64 0, .int .i64 0] 36)).heap[w.heap.size + 1]? = some (.cells #[.int .i64 0, .int .i64 0] 36 (0, 0)) := blk_at _ (by simp)
      replace h := h.below B2
      generalize (w.alloc (.cells #[.int .i64 v, .slice A n c, .int .i64 v', .slice A' n' c'] 63)).alloc (.cells #[.int .i64 0, .int .i64 0] 36) = W1 at *
      refine (top_calls v A n c v' A' n' c' q _ h).mono ?_
      rintro e w1 ⟨⟨v1, A1, n1, c1, rfl, hI⟩, hB1⟩
      replace a1 := blk_below a1 hB1
      replace a2 := blk_below a2 hB1
      replace B2 := bl_then B2 hB1
      replace h := h.below hB1
      clear hB1
      go_wp2_with fail
      refine (int_yes v1 A1 n1 c1 q.num 1152921504606846976 _ hI (by omega) hn.2 (by omega)).mono ?_
      rintro e w2 ⟨rfl, hB1⟩
      replace a1 := blk_below a1 hB1
      replace a2 := blk_below a2 hB1
      replace B2 := bl_then B2 hB1
      replace h := h.below hB1
      clear hB1 hI
      obtain ⟨⟨p1, p2, p3, p4⟩, p5, p6, p7, p8⟩ := bx4 a1
      go_wp2_with fail
      refine (low_calls v A n c v' A' n' c' q _ h).mono ?_
      rintro e w3 ⟨⟨v2, A2, n2, c2, rfl, hJ⟩, hB1⟩
      replace a2 := blk_below a2 hB1
      replace B2 := bl_then B2 hB1
      clear hB1 p1 p2 p3 p4 p5 p6 p7 p8 a1 h
      go_wp2_with fail
      refine (int_no v2 A2 n2 c2 (q.den : Int) 1152921504606846976 _ hJ (by omega) (by omega) (by omega)).mono ?_
      rintro e w4 ⟨rfl, hB1⟩
      replace a2 := blk_below a2 hB1
      replace B2 := bl_then B2 hB1
      clear hB1 hJ hn hd hdp
      obtain ⟨p1, p2, p3, p4⟩ := bx2 a2
      generalize hqn : q.num = qn at *
      generalize hqd : (q.den : Int) = qd at *
      clear hqn hqd
      go_wp2
      refine bodyPost_ret (results_cell_tmp_row rfl _ _ (w.heap.size + 1) 36 #[.int .i64 0, .int .i64 0] (0, 0) _ _ rfl (by first | exact blk_set2 a2 _ _ | exact a2) Try.underlying36 rfl (by kernel_rfl) rfl) rfl ?_
      exact ⟨rfl, by first | exact B2 | exact bl_set (bl_set B2 (by simp) _) (by simp) _⟩
  · have hf : ¬ Fits q := fun h => hn ⟨h.1, h.2.1⟩
    unfold outT outL outE
    rw [if_neg hf, if_neg hf, if_neg hf]
    clear hf
    by_cases hd : (q.den : Int) ≤ 1152921504606846976
    · skip
      go_enter Try.func26, Try.ntmps26
      go_wp2_with fail
      have B2 := bl_alloc (bl_alloc (Below.refl w.heap.size w) (.cells #[.int .i64 v, .slice A n c, .int .i64 v', .slice A' n' c'] 63)) (.cells #[.int .i64 0, .int .i64 0] 36)
      have a1 : ((w.alloc (.cells #[.int .i64 v, .slice A n c, .int .i64 v', .slice A' n' c'] 63)).alloc (.cells #[.int .i64 0, .int .i64 0] 36)).heap[w.heap.size]? = some (.cells #[.int .i64 v, .slice A n c, .int .i64 v', .slice A' n' c'] 63 (0, 0)) := blk_alloc (blk_at _ rfl) _
      have a2 : ((w.alloc (.cells #[.int .i64 v, .slice A n c, .int .i64 v', .slice A' n' c'] 63)).alloc (.cells #[.int .i64 0, .int .i64 0] 36)).heap[w.heap.size + 1]? = some (.cells #[.int .i64 0, .int .i64 0] 36 (0, 0)) := blk_at _ (by simp)
      replace h := h.below B2
      generalize (w.alloc (.cells #[.int .i64 v, .slice A n c, .int .i64 v', .slice A' n' c'] 63)).alloc (.cells #[.int .i64 0, .int .i64 0] 36) = W1 at *
      refine (top_calls v A n c v' A' n' c' q _ h).mono ?_
      rintro e w1 ⟨⟨v1, A1, n1, c1, rfl, hI⟩, hB1⟩
      replace a1 := blk_below a1 hB1
      replace a2 := blk_below a2 hB1
      replace B2 := bl_then B2 hB1
      replace h := h.below hB1
      clear hB1
      go_wp2_with fail
      refine (int_no v1 A1 n1 c1 q.num 1152921504606846976 _ hI (by omega) (by omega) (by omega)).mono ?_
      rintro e w2 ⟨rfl, hB1⟩
      replace a1 := blk_below a1 hB1
      replace a2 := blk_below a2 hB1
      replace B2 := bl_then B2 hB1
      replace h := h.below hB1
      clear hB1 hI
      obtain ⟨⟨p1, p2, p3, p4⟩, p5, p6, p7, p8⟩ := bx4 a1
      go_wp2_with fail
      refine (low_calls v A n c v' A' n' c' q _ h).mono ?_
      rintro e w3 ⟨⟨v2, A2, n2, c2, rfl, hJ⟩, hB1⟩
      replace a2 := blk_below a2 hB1
      replace B2 := bl_then B2 hB1
      clear hB1 p1 p2 p3 p4 p5 p6 p7 p8 a1 h
      go_wp2_with fail
      refine (int_yes v2 A2 n2 c2 (q.den : Int) 1152921504606846976 _ hJ (by omega) hd (by omega)).mono ?_
      rintro e w4 ⟨rfl, hB1⟩
      replace a2 := blk_below a2 hB1
      replace B2 := bl_then B2 hB1
      clear hB1 hJ hn hd hdp
      obtain ⟨p1, p2, p3, p4⟩ := bx2 a2
      generalize hqn : q.num = qn at *
      generalize hqd : (q.den : Int) = qd at *
      clear hqn hqd
      go_wp2
      refine bodyPost_ret (results_cell_tmp_row rfl _ _ (w.heap.size + 1) 36 #[.int .i64 0, .int .i64 0] (0, 0) _ _ rfl (by first | exact blk_set2 a2 _ _ | exact a2) Try.underlying36 rfl (by kernel_rfl) rfl) rfl ?_
      exact ⟨rfl, by first | exact B2 | exact bl_set (bl_set B2 (by simp) _) (by simp) _⟩
    · skip
      go_enter Try.func26, Try.ntmps26
      go_wp2_with fail
      have B2 := bl_alloc (bl_alloc (Below.refl w.heap.size w) (.cells #[.int .i64 v, .slice A n c, .int .i64 v', .slice A' n' c'] 63)) (.cells #[.int .i64 0, .int .i64 0] 36)
      have a1 : ((w.alloc (.cells #[.int .i64 v, .slice A n c, .int .i64 v', .slice A' n' c'] 63)).alloc (.cells #[.int .i64 0, .int .i64 0] 36)).heap[w.heap.size]? = some (.cells #[.int .i64 v, .slice A n c, .int .i64 v', .slice A' n' c'] 63 (0, 0)) := blk_alloc (blk_at _ rfl) _
      have a2 : ((w.alloc (.cells #[.int .i64 v, .slice A n c, .int .i64 v', .slice A' n' c'] 63)).alloc (.cells #[.int .i64 0, .int .i64 0] 36)).heap[w.heap.size + 1]? = some (.cells #[.int .i64 0, .int .i64 0] 36 (0, 0)) := blk_at _ (by simp)
      replace h := h.below B2
      generalize (w.alloc (.cells #[.int .i64 v, .slice A n c, .int .i64 v', .slice A' n' c'] 63)).alloc (.cells #[.int .i64 0, .int .i64 0] 36) = W1 at *
      refine (top_calls v A n c v' A' n' c' q _ h).mono ?_
      rintro e w1 ⟨⟨v1, A1, n1, c1, rfl, hI⟩, hB1⟩
      replace a1 := blk_below a1 hB1
      replace a2 := blk_below a2 hB1
      replace B2 := bl_then B2 hB1
      replace h := h.below hB1
      clear hB1
      go_wp2_with fail
      refine (int_no v1 A1 n1 c1 q.num 1152921504606846976 _ hI (by omega) (by omega) (by omega)).mono ?_
      rintro e w2 ⟨rfl, hB1⟩
      replace a1 := blk_below a1 hB1
      replace a2 := blk_below a2 hB1
      replace B2 := bl_then B2 hB1
      replace h := h.below hB1
      clear hB1 hI
      obtain ⟨⟨p1, p2, p3, p4⟩, p5, p6, p7, p8⟩ := bx4 a1
      go_wp2_with fail
      refine (low_calls v A n c v' A' n' c' q _ h).mono ?_
      rintro e w3 ⟨⟨v2, A2, n2, c2, rfl, hJ⟩, hB1⟩
      replace a2 := blk_below a2 hB1
      replace B2 := bl_then B2 hB1
      clear hB1 p1 p2 p3 p4 p5 p6 p7 p8 a1 h
      go_wp2_with fail
      refine (int_no v2 A2 n2 c2 (q.den : Int) 1152921504606846976 _ hJ (by omega) (by omega) (by omega)).mono ?_
      rintro e w4 ⟨rfl, hB1⟩
      replace a2 := blk_below a2 hB1
      replace B2 := bl_then B2 hB1
      clear hB1 hJ hn hd hdp
      obtain ⟨p1, p2, p3, p4⟩ := bx2 a2
      generalize hqn : q.num = qn at *
      generalize hqd : (q.den : Int) = qd at *
      clear hqn hqd
      go_wp2
      refine bodyPost_ret (results_cell_tmp_row rfl _ _ (w.heap.size + 1) 36 #[.int .i64 0, .int .i64 0] (0, 0) _ _ rfl (by first | exact blk_set2 a2 _ _ | exact a2) Try.underlying36 rfl (by kernel_rfl) rfl) rfl ?_
      exact ⟨rfl, by first | exact B2 | exact bl_set (bl_set B2 (by simp) _) (by simp) _⟩
end Go.Proofs.Ytjmbpeniibdnoaa
