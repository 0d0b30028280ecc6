/- num: Div, Cmp, Make, Floor, Ceil. -/
import Derived.Test.YtijdnlkojflnkaaNum2
set_option linter.unusedVariables false
set_option linter.unusedSimpArgs false
namespace Go.Proofs.Ytijdnlkojflnkaa
open Go.RowKit

theorem floor_bd (q : Rat) (h0 : -1152921504606846976 ≤ q.num) (h1 : q.num ≤ 1152921504606846976) : -1152921504606846976 ≤ q.floor ∧ q.floor ≤ 1152921504606846976 := by
  have hd := q.den_pos
  rw [Rat.floor_def]
  constructor
  · rw [Int.le_ediv_iff_mul_le (by omega)]
    have : (-1152921504606846976 : Int) * (q.den : Int) ≤ -1152921504606846976 * 1 := Int.mul_le_mul_of_nonpos_left (by omega) (by omega)
    omega
  · have h := Int.ediv_lt_of_lt_mul (a := q.num) (b := 1152921504606846977) (c := (q.den : Int)) (by omega) (by
      have : (1152921504606846977 : Int) * 1 ≤ 1152921504606846977 * (q.den : Int) := Int.mul_le_mul_of_nonneg_left (by omega) (by omega)
      omega)
    omega
/-- The result of Div. -/
def dT (t l t' l' : Int) : Int := if (OkN t l ∧ OkN t' l') ∧ t' = 0 then 0 else rT (OkN t l ∧ OkN t' l') (Rat.divInt t l / Rat.divInt t' l')
def dL (t l t' l' : Int) : Int := if (OkN t l ∧ OkN t' l') ∧ t' = 0 then 0 else rL (OkN t l ∧ OkN t' l') (Rat.divInt t l / Rat.divInt t' l')
def dE (t l t' l' : Int) : Int := if (OkN t l ∧ OkN t' l') ∧ t' = 0 then 5 else rE (OkN t l ∧ OkN t' l') (Rat.divInt t l / Rat.divInt t' l')

set_option maxHeartbeats 8000000 in
set_option maxRecDepth 100000 in
theorem with_ndiv_calls (q : Rat) (t l t' l' : Int) (w : World) (h0 : -9223372036854775808 ≤ t) (h1 : t ≤ 9223372036854775807) (h2 : -9223372036854775808 ≤ l) (h3 : l ≤ 9223372036854775807) (h0' : -9223372036854775808 ≤ t') (h1' : t' ≤ 9223372036854775807) (h2' : -9223372036854775808 ≤ l') (h3' : l' ≤ 9223372036854775807)
    (hF : OkN t l → OkN t' l' → ∀ (v1 : Int) (A1 : Option Addr) (n1 c1 : Nat) (v1' : Int) (A1' : Option Addr) (n1' c1' : Nat) (v2 : Int) (A2 : Option Addr) (n2 c2 : Nat) (v2' : Int) (A2' : Option Addr) (n2' c2' : Nat) (w : World), RatV w v1 A1 n1 c1 v1' A1' n1' c1' (Rat.divInt t l) → RatV w v2 A2 n2 c2 v2' A2' n2' c2' (Rat.divInt t' l') →
      Calls Try.prog 54 #[.agg #[.int .i64 v1, .slice A1 n1 c1, .int .i64 v1', .slice A1' n1' c1'], .agg #[.int .i64 v2, .slice A2 n2 c2, .int .i64 v2', .slice A2' n2' c2']] w fun e w' => RatR e w' q ∧ Below w.heap.size w w') :
    Calls Try.prog 50 #[.agg #[.int .i64 t, .int .i64 l], .agg #[.int .i64 t', .int .i64 l'], .func (.func 54) #[] #[]] w fun e w' => NumR e (rT (OkN t l ∧ OkN t' l') q) (rL (OkN t l ∧ OkN t' l') q) (rE (OkN t l ∧ OkN t' l') q) ∧ Below w.heap.size w w' := by
  by_cases hv : OkN t l
  · by_cases hv' : OkN t' l'
    · have e := And.intro hv hv'
      unfold rT rL rE
      rw [if_pos e, if_pos e, if_pos e]
      replace hF := Lib.hid (hF hv hv')
      replace hv := Lib.hid hv
      replace hv' := Lib.hid hv'
      clear e
      generalize hT : outT q = oT
      generalize hL : outL q = oL
      generalize hE : outE q = oE
      replace hT := Lib.hid hT
      replace hL := Lib.hid hL
      replace hE := Lib.hid hE
      go_enter Try.func50, Try.ntmps50
      go_wp2_with fail
      have B0 := bl_alloc (bl_alloc (bl_alloc (Below.refl w.heap.size w) (.cells #[.int .i64 t, .int .i64 l] 23)) (.cells #[.int .i64 t', .int .i64 l'] 23)) (.cells #[.int .i64 0, .int .i64 0] 23)
      have a1 : (((w.alloc (.cells #[.int .i64 t, .int .i64 l] 23)).alloc (.cells #[.int .i64 t', .int .i64 l'] 23)).alloc (.cells #[.int .i64 0, .int .i64 0] 23)).heap[w.heap.size]? = some (.cells #[.int .i64 t, .int .i64 l] 23 (0, 0)) := blk_alloc (blk_alloc (blk_at _ rfl) _) _
      have a2 : (((w.alloc (.cells #[.int .i64 t, .int .i64 l] 23)).alloc (.cells #[.int .i64 t', .int .i64 l'] 23)).alloc (.cells #[.int .i64 0, .int .i64 0] 23)).heap[w.heap.size + 1]? = some (.cells #[.int .i64 t', .int .i64 l'] 23 (0, 0)) := blk_alloc (blk_at _ (by simp)) _
      have a3 : (((w.alloc (.cells #[.int .i64 t, .int .i64 l] 23)).alloc (.cells #[.int .i64 t', .int .i64 l'] 23)).alloc (.cells #[.int .i64 0, .int .i64 0] 23)).heap[w.heap.size + 1 + 1]? = some (.cells #[.int .i64 0, .int .i64 0] 23 (0, 0)) := blk_at _ (by simp)
      generalize ((w.alloc (.cells #[.int .i64 t, .int .i64 l] 23)).alloc (.cells #[.int .i64 t', .int .i64 l'] 23)).alloc (.cells #[.int .i64 0, .int .i64 0] 23) = W0 at *
      refine (valid_calls t l _ h0 h1 h2 h3).mono ?_
      rintro e w1 ⟨rfl, hB1⟩
      rw [decide_eq_true hv.out]
      replace a1 := blk_below a1 hB1
      replace a2 := blk_below a2 hB1
      replace a3 := blk_below a3 hB1
      replace B0 := bl_then B0 hB1
      clear hB1
      obtain ⟨q1, q2, q3, q4⟩ := bx2 a2
      go_wp2_with fail
      refine (valid_calls t' l' _ h0' h1' h2' h3').mono ?_
      rintro e w2 ⟨rfl, hB2⟩
      rw [decide_eq_true hv'.out]
      replace a1 := blk_below a1 hB2
      replace a2 := blk_below a2 hB2
      replace a3 := blk_below a3 hB2
      replace B0 := bl_then B0 hB2
      clear hB2
      clear q1 q2 q3 q4
      obtain ⟨p1, p2, p3, p4⟩ := bx2 a1
      obtain ⟨q1, q2, q3, q4⟩ := bx2 a2
      go_wp2_with fail
      go_region_held3 (fun W => W.cell? ⟨w.heap.size, 0, none⟩ = some (Value.int .i64 t) ∧ W.cell? ⟨w.heap.size, 1, none⟩ = some (Value.int .i64 l) ∧ W.cell? ⟨w.heap.size + 1, 0, none⟩ = some (Value.int .i64 t') ∧ W.cell? ⟨w.heap.size + 1, 1, none⟩ = some (Value.int .i64 l')) (first | with_reducible exact keep4 hB4 (by assumption) | with_reducible exact keep4 hB3 (by assumption) | with_reducible exact keep4 hB2 (by assumption) | with_reducible exact keep4 hB1 (by assumption) | exact ⟨p1, p2, q1, q2⟩ | with_reducible exact keep4_set2' (by assumption) (by omega) (by omega) | go_keep) (first | (have _hh := HB_3; go_at_call 38; refine (out_calls v3 A3 n3 c3 v3' A3' n3' c3' _ _ g3_3).mono ?_; rintro e w4 ⟨he4, hB4⟩; unfold NumR at he4; rw [hT.out, hL.out, hE.out] at he4; subst he4; have aR_4 := blk_below aR_3 hB4; have HB_4 := bl_then HB_3 hB4; obtain ⟨z1, z2, z3, z4⟩ := bx2 aR_4) | (have _hh := HB_2; go_at_call 54; refine (hF.out v1 A1 n1 c1 v1' A1' n1' c1' v2 A2 n2 c2 v2' A2' n2' c2' _ g1_2 g2_2).mono ?_; rintro e w3 ⟨⟨v3, A3, n3, c3, v3', A3', n3', c3', rfl, g3_3⟩, hB3⟩; have aR_3 := blk_below aR_2 hB3; have HB_3 := bl_then HB_2 hB3) | (have _hh := HB_1; go_at_call_of 35 (Value.agg #[.int .i64 t', .int .i64 l']); refine (rat_calls t' l' _ h0' h1' h2' h3' (by have := hv'.out.1; omega)).mono ?_; rintro e w2 ⟨⟨v2, A2, n2, c2, v2', A2', n2', c2', rfl, g2_2⟩, hB2⟩; have g1_2 := g1_1.below hB2; have aR_2 := blk_below aR_1 hB2; have HB_2 := bl_then HB_1 hB2) | (go_at_call_of 35 (Value.agg #[.int .i64 t, .int .i64 l]); refine (rat_calls t l _ h0 h1 h2 h3 (by have := hv.out.1; omega)).mono ?_; rintro e w1 ⟨⟨v1, A1, n1, c1, v1', A1', n1', c1', rfl, g1_1⟩, hB1⟩; have aR_1 := (by first | exact blk_below a3 hB1 | exact blk_below (blk_drew a3) hB1); have HB_1 := (by first | exact bl_then B0 hB1 | exact bl_then (bl_drew B0) hB1)) | fail)
      all_goals
        go_wp2
        refine bodyPost_ret (results_cell_tmp_row rfl _ _ (w.heap.size + 1 + 1) 23 #[.int .i64 oT, .int .i64 oL] (0, 0) _ _ rfl (by exact blk_set2 aR_4 _ _) Try.underlying23 rfl (by kernel_rfl) rfl) rfl ?_
        exact ⟨rfl, bl_set (bl_set HB_4 (by show w.heap.size ≤ w.heap.size + 1 + 1; omega) _) (by show w.heap.size ≤ w.heap.size + 1 + 1; omega) _⟩
    · have e : ¬ (OkN t l ∧ OkN t' l') := fun h => hv' h.2
      unfold rT rL rE
      rw [if_neg e, if_neg e, if_neg e]
      replace hv := Lib.hid hv
      replace hv' := Lib.hid hv'
      clear e hF
      go_enter Try.func50, Try.ntmps50
      go_wp2_with fail
      have B0 := bl_alloc (bl_alloc (bl_alloc (Below.refl w.heap.size w) (.cells #[.int .i64 t, .int .i64 l] 23)) (.cells #[.int .i64 t', .int .i64 l'] 23)) (.cells #[.int .i64 0, .int .i64 0] 23)
      have a1 : (((w.alloc (.cells #[.int .i64 t, .int .i64 l] 23)).alloc (.cells #[.int .i64 t', .int .i64 l'] 23)).alloc (.cells #[.int .i64 0, .int .i64 0] 23)).heap[w.heap.size]? = some (.cells #[.int .i64 t, .int .i64 l] 23 (0, 0)) := blk_alloc (blk_alloc (blk_at _ rfl) _) _
      have a2 : (((w.alloc (.cells #[.int .i64 t, .int .i64 l] 23)).alloc (.cells #[.int .i64 t', .int .i64 l'] 23)).alloc (.cells #[.int .i64 0, .int .i64 0] 23)).heap[w.heap.size + 1]? = some (.cells #[.int .i64 t', .int .i64 l'] 23 (0, 0)) := blk_alloc (blk_at _ (by simp)) _
      have a3 : (((w.alloc (.cells #[.int .i64 t, .int .i64 l] 23)).alloc (.cells #[.int .i64 t', .int .i64 l'] 23)).alloc (.cells #[.int .i64 0, .int .i64 0] 23)).heap[w.heap.size + 1 + 1]? = some (.cells #[.int .i64 0, .int .i64 0] 23 (0, 0)) := blk_at _ (by simp)
      generalize ((w.alloc (.cells #[.int .i64 t, .int .i64 l] 23)).alloc (.cells #[.int .i64 t', .int .i64 l'] 23)).alloc (.cells #[.int .i64 0, .int .i64 0] 23) = W0 at *
      refine (valid_calls t l _ h0 h1 h2 h3).mono ?_
      rintro e w1 ⟨rfl, hB1⟩
      rw [decide_eq_true hv.out]
      replace a1 := blk_below a1 hB1
      replace a2 := blk_below a2 hB1
      replace a3 := blk_below a3 hB1
      replace B0 := bl_then B0 hB1
      clear hB1
      obtain ⟨q1, q2, q3, q4⟩ := bx2 a2
      go_wp2_with fail
      refine (valid_calls t' l' _ h0' h1' h2' h3').mono ?_
      rintro e w2 ⟨rfl, hB2⟩
      rw [decide_eq_false hv'.out]
      replace a1 := blk_below a1 hB2
      replace a2 := blk_below a2 hB2
      replace a3 := blk_below a3 hB2
      replace B0 := bl_then B0 hB2
      clear hB2
      clear q1 q2 q3 q4
      obtain ⟨z1, z2, z3, z4⟩ := bx2 a3
      go_wp2
      refine bodyPost_ret (results_cell_tmp_row rfl _ _ (w.heap.size + 1 + 1) 23 #[.int .i64 0, .int .i64 0] (0, 0) _ _ rfl (by first | exact blk_set2 a3 _ _ | exact a3) Try.underlying23 rfl (by kernel_rfl) rfl) rfl ?_
      exact ⟨rfl, by first | exact B0 | exact bl_set (bl_set B0 (by show w.heap.size ≤ w.heap.size + 1 + 1; omega) _) (by show w.heap.size ≤ w.heap.size + 1 + 1; omega) _⟩
  · have e : ¬ (OkN t l ∧ OkN t' l') := fun h => hv h.1
    unfold rT rL rE
    rw [if_neg e, if_neg e, if_neg e]
    replace hv := Lib.hid hv
    clear e hF
    go_enter Try.func50, Try.ntmps50
    go_wp2_with fail
    have B0 := bl_alloc (bl_alloc (bl_alloc (Below.refl w.heap.size w) (.cells #[.int .i64 t, .int .i64 l] 23)) (.cells #[.int .i64 t', .int .i64 l'] 23)) (.cells #[.int .i64 0, .int .i64 0] 23)
    have a1 : (((w.alloc (.cells #[.int .i64 t, .int .i64 l] 23)).alloc (.cells #[.int .i64 t', .int .i64 l'] 23)).alloc (.cells #[.int .i64 0, .int .i64 0] 23)).heap[w.heap.size]? = some (.cells #[.int .i64 t, .int .i64 l] 23 (0, 0)) := blk_alloc (blk_alloc (blk_at _ rfl) _) _
    have a2 : (((w.alloc (.cells #[.int .i64 t, .int .i64 l] 23)).alloc (.cells #[.int .i64 t', .int .i64 l'] 23)).alloc (.cells #[.int .i64 0, .int .i64 0] 23)).heap[w.heap.size + 1]? = some (.cells #[.int .i64 t', .int .i64 l'] 23 (0, 0)) := blk_alloc (blk_at _ (by simp)) _
    have a3 : (((w.alloc (.cells #[.int .i64 t, .int .i64 l] 23)).alloc (.cells #[.int .i64 t', .int .i64 l'] 23)).alloc (.cells #[.int .i64 0, .int .i64 0] 23)).heap[w.heap.size + 1 + 1]? = some (.cells #[.int .i64 0, .int .i64 0] 23 (0, 0)) := blk_at _ (by simp)
    generalize ((w.alloc (.cells #[.int .i64 t, .int .i64 l] 23)).alloc (.cells #[.int .i64 t', .int .i64 l'] 23)).alloc (.cells #[.int .i64 0, .int .i64 0] 23) = W0 at *
    refine (valid_calls t l _ h0 h1 h2 h3).mono ?_
    rintro e w1 ⟨rfl, hB1⟩
    rw [decide_eq_false hv.out]
    replace a1 := blk_below a1 hB1
    replace a2 := blk_below a2 hB1
    replace a3 := blk_below a3 hB1
    replace B0 := bl_then B0 hB1
    clear hB1
    obtain ⟨z1, z2, z3, z4⟩ := bx2 a3
    go_wp2
    refine bodyPost_ret (results_cell_tmp_row rfl _ _ (w.heap.size + 1 + 1) 23 #[.int .i64 0, .int .i64 0] (0, 0) _ _ rfl (by first | exact blk_set2 a3 _ _ | exact a3) Try.underlying23 rfl (by kernel_rfl) rfl) rfl ?_
    exact ⟨rfl, by first | exact B0 | exact bl_set (bl_set B0 (by show w.heap.size ≤ w.heap.size + 1 + 1; omega) _) (by show w.heap.size ≤ w.heap.size + 1 + 1; omega) _⟩

set_option maxHeartbeats 8000000 in
set_option maxRecDepth 100000 in
theorem ndiv_calls (t l t' l' : Int) (w : World) (h0 : -9223372036854775808 ≤ t) (h1 : t ≤ 9223372036854775807) (h2 : -9223372036854775808 ≤ l) (h3 : l ≤ 9223372036854775807) (h0' : -9223372036854775808 ≤ t') (h1' : t' ≤ 9223372036854775807) (h2' : -9223372036854775808 ≤ l') (h3' : l' ≤ 9223372036854775807) :
    Calls Try.prog 18 #[.agg #[.int .i64 t, .int .i64 l], .agg #[.int .i64 t', .int .i64 l']] w fun e w' => NumR e (dT t l t' l') (dL t l t' l') (dE t l t' l') ∧ Below w.heap.size w w' := by
  by_cases hv : OkN t l
  · by_cases hv' : OkN t' l'
    · by_cases hz : t' = 0
      · have e : (OkN t l ∧ OkN t' l') ∧ t' = 0 := ⟨⟨hv, hv'⟩, hz⟩
        unfold dT dL dE
        rw [if_pos e, if_pos e, if_pos e]
        replace hv := Lib.hid hv
        replace hv' := Lib.hid hv'
        replace hz := Lib.hid hz
        clear e
        go_enter Try.func18, Try.ntmps18
        go_wp2_with fail
        have B0 := bl_alloc (bl_alloc (bl_alloc (Below.refl w.heap.size w) (.cells #[.int .i64 t, .int .i64 l] 23)) (.cells #[.int .i64 t', .int .i64 l'] 23)) (.cells #[.int .i64 0, .int .i64 0] 23)
        have a1 : (((w.alloc (.cells #[.int .i64 t, .int .i64 l] 23)).alloc (.cells #[.int .i64 t', .int .i64 l'] 23)).alloc (.cells #[.int .i64 0, .int .i64 0] 23)).heap[w.heap.size]? = some (.cells #[.int .i64 t, .int .i64 l] 23 (0, 0)) := blk_alloc (blk_alloc (blk_at _ rfl) _) _
        have a2 : (((w.alloc (.cells #[.int .i64 t, .int .i64 l] 23)).alloc (.cells #[.int .i64 t', .int .i64 l'] 23)).alloc (.cells #[.int .i64 0, .int .i64 0] 23)).heap[w.heap.size + 1]? = some (.cells #[.int .i64 t', .int .i64 l'] 23 (0, 0)) := blk_alloc (blk_at _ (by simp)) _
        have a3 : (((w.alloc (.cells #[.int .i64 t, .int .i64 l] 23)).alloc (.cells #[.int .i64 t', .int .i64 l'] 23)).alloc (.cells #[.int .i64 0, .int .i64 0] 23)).heap[w.heap.size + 1 + 1]? = some (.cells #[.int .i64 0, .int .i64 0] 23 (0, 0)) := blk_at _ (by simp)
        generalize ((w.alloc (.cells #[.int .i64 t, .int .i64 l] 23)).alloc (.cells #[.int .i64 t', .int .i64 l'] 23)).alloc (.cells #[.int .i64 0, .int .i64 0] 23) = W0 at *
        refine (valid_calls t l _ h0 h1 h2 h3).mono ?_
        rintro e w1 ⟨rfl, hB1⟩
        rw [decide_eq_true hv.out]
        replace a1 := blk_below a1 hB1
        replace a2 := blk_below a2 hB1
        replace a3 := blk_below a3 hB1
        replace B0 := bl_then B0 hB1
        clear hB1
        obtain ⟨q1, q2, q3, q4⟩ := bx2 a2
        go_wp2_with fail
        refine (valid_calls t' l' _ h0' h1' h2' h3').mono ?_
        rintro e w2 ⟨rfl, hB2⟩
        rw [decide_eq_true hv'.out]
        replace a1 := blk_below a1 hB2
        replace a2 := blk_below a2 hB2
        replace a3 := blk_below a3 hB2
        replace B0 := bl_then B0 hB2
        clear hB2
        clear q1 q2 q3 q4
        have hz0 : (t' == 0) = true := by simp [hz.out]
        obtain ⟨q1, q2, q3, q4⟩ := bx2 a2
        obtain ⟨z1, z2, z3, z4⟩ := bx2 a3
        go_wp2
        refine bodyPost_ret (results_cell_tmp_row rfl _ _ (w.heap.size + 1 + 1) 23 #[.int .i64 0, .int .i64 0] (0, 0) _ _ rfl (by first | exact blk_set2 a3 _ _ | exact a3) Try.underlying23 rfl (by kernel_rfl) rfl) rfl ?_
        exact ⟨rfl, by first | exact B0 | exact bl_set (bl_set B0 (by show w.heap.size ≤ w.heap.size + 1 + 1; omega) _) (by show w.heap.size ≤ w.heap.size + 1 + 1; omega) _⟩
      · have e : ¬ ((OkN t l ∧ OkN t' l') ∧ t' = 0) := fun h => hz h.2
        have e2 : OkN t l ∧ OkN t' l' := ⟨hv, hv'⟩
        unfold dT dL dE
        rw [if_neg e, if_neg e, if_neg e]
        have hzb : (t' == 0) = false := by simp [hz]
        replace hz : Hid (t' ≠ 0) := Lib.hid hz
        replace hv := Lib.hid hv
        replace hv' := Lib.hid hv'
        clear e e2
        generalize hT : rT (OkN t l ∧ OkN t' l') (Rat.divInt t l / Rat.divInt t' l') = oT
        generalize hL : rL (OkN t l ∧ OkN t' l') (Rat.divInt t l / Rat.divInt t' l') = oL
        generalize hE : rE (OkN t l ∧ OkN t' l') (Rat.divInt t l / Rat.divInt t' l') = oE
        replace hT := Lib.hid hT
        replace hL := Lib.hid hL
        replace hE := Lib.hid hE
        go_enter Try.func18, Try.ntmps18
        go_wp2_with fail
        have B0 := bl_alloc (bl_alloc (bl_alloc (Below.refl w.heap.size w) (.cells #[.int .i64 t, .int .i64 l] 23)) (.cells #[.int .i64 t', .int .i64 l'] 23)) (.cells #[.int .i64 0, .int .i64 0] 23)
        have a1 : (((w.alloc (.cells #[.int .i64 t, .int .i64 l] 23)).alloc (.cells #[.int .i64 t', .int .i64 l'] 23)).alloc (.cells #[.int .i64 0, .int .i64 0] 23)).heap[w.heap.size]? = some (.cells #[.int .i64 t, .int .i64 l] 23 (0, 0)) := blk_alloc (blk_alloc (blk_at _ rfl) _) _
        have a2 : (((w.alloc (.cells #[.int .i64 t, .int .i64 l] 23)).alloc (.cells #[.int .i64 t', .int .i64 l'] 23)).alloc (.cells #[.int .i64 0, .int .i64 0] 23)).heap[w.heap.size + 1]? = some (.cells #[.int .i64 t', .int .i64 l'] 23 (0, 0)) := blk_alloc (blk_at _ (by simp)) _
        have a3 : (((w.alloc (.cells #[.int .i64 t, .int .i64 l] 23)).alloc (.cells #[.int .i64 t', .int .i64 l'] 23)).alloc (.cells #[.int .i64 0, .int .i64 0] 23)).heap[w.heap.size + 1 + 1]? = some (.cells #[.int .i64 0, .int .i64 0] 23 (0, 0)) := blk_at _ (by simp)
        generalize ((w.alloc (.cells #[.int .i64 t, .int .i64 l] 23)).alloc (.cells #[.int .i64 t', .int .i64 l'] 23)).alloc (.cells #[.int .i64 0, .int .i64 0] 23) = W0 at *
        refine (valid_calls t l _ h0 h1 h2 h3).mono ?_
        rintro e w1 ⟨rfl, hB1⟩
        rw [decide_eq_true hv.out]
        replace a1 := blk_below a1 hB1
        replace a2 := blk_below a2 hB1
        replace a3 := blk_below a3 hB1
        replace B0 := bl_then B0 hB1
        clear hB1
        obtain ⟨q1, q2, q3, q4⟩ := bx2 a2
        go_wp2_with fail
        refine (valid_calls t' l' _ h0' h1' h2' h3').mono ?_
        rintro e w2 ⟨rfl, hB2⟩
        rw [decide_eq_true hv'.out]
        replace a1 := blk_below a1 hB2
        replace a2 := blk_below a2 hB2
        replace a3 := blk_below a3 hB2
        replace B0 := bl_then B0 hB2
        clear hB2
        clear q1 q2 q3 q4
        obtain ⟨p1, p2, p3, p4⟩ := bx2 a1
        obtain ⟨q1, q2, q3, q4⟩ := bx2 a2
        go_wp2_with fail
        refine (with_ndiv_calls _ t l t' l' _ h0 h1 h2 h3 h0' h1' h2' h3' (fun ok ok' v1 A1 n1 c1 v1' A1' n1' c1' v2 A2 n2 c2 v2' A2' n2' c2' w g g' => rdiv_calls v1 A1 n1 c1 v1' A1' n1' c1' _ v2 A2 n2 c2 v2' A2' n2' c2' _ w g g' 64 (num_sz ok).1 (num_sz ok').1 (by omega) (fun hh => hz.out (by have := (num_sz ok').2.1; rw [hh] at this; simpa using this.symm)))).mono ?_
        rintro e w3 ⟨he, hB3⟩
        rw [hT.out, hL.out, hE.out] at he
        unfold NumR at he
        subst he
        replace a3 := blk_below a3 hB3
        replace B0 := bl_then B0 hB3
        clear hB3 p1 p2 p3 p4 q1 q2 q3 q4
        obtain ⟨z1, z2, z3, z4⟩ := bx2 a3
        go_wp2
        refine bodyPost_ret (results_cell_tmp_row rfl _ _ (w.heap.size + 1 + 1) 23 #[.int .i64 oT, .int .i64 oL] (0, 0) _ _ rfl (by exact blk_set2 a3 _ _) Try.underlying23 rfl (by kernel_rfl) rfl) rfl ?_
        exact ⟨rfl, bl_set (bl_set B0 (by show w.heap.size ≤ w.heap.size + 1 + 1; omega) _) (by show w.heap.size ≤ w.heap.size + 1 + 1; omega) _⟩
    · have e : ¬ ((OkN t l ∧ OkN t' l') ∧ t' = 0) := fun h => hv' h.1.2
      have e2 : ¬ (OkN t l ∧ OkN t' l') := fun h => hv' h.2
      unfold dT dL dE rT rL rE
      rw [if_neg e, if_neg e, if_neg e, if_neg e2, if_neg e2, if_neg e2]
      replace hv := Lib.hid hv
      replace hv' := Lib.hid hv'
      clear e e2
      go_enter Try.func18, Try.ntmps18
      go_wp2_with fail
      have B0 := bl_alloc (bl_alloc (bl_alloc (Below.refl w.heap.size w) (.cells #[.int .i64 t, .int .i64 l] 23)) (.cells #[.int .i64 t', .int .i64 l'] 23)) (.cells #[.int .i64 0, .int .i64 0] 23)
      have a1 : (((w.alloc (.cells #[.int .i64 t, .int .i64 l] 23)).alloc (.cells #[.int .i64 t', .int .i64 l'] 23)).alloc (.cells #[.int .i64 0, .int .i64 0] 23)).heap[w.heap.size]? = some (.cells #[.int .i64 t, .int .i64 l] 23 (0, 0)) := blk_alloc (blk_alloc (blk_at _ rfl) _) _
      have a2 : (((w.alloc (.cells #[.int .i64 t, .int .i64 l] 23)).alloc (.cells #[.int .i64 t', .int .i64 l'] 23)).alloc (.cells #[.int .i64 0, .int .i64 0] 23)).heap[w.heap.size + 1]? = some (.cells #[.int .i64 t', .int .i64 l'] 23 (0, 0)) := blk_alloc (blk_at _ (by simp)) _
      have a3 : (((w.alloc (.cells #[.int .i64 t, .int .i64 l] 23)).alloc (.cells #[.int .i64 t', .int .i64 l'] 23)).alloc (.cells #[.int .i64 0, .int .i64 0] 23)).heap[w.heap.size + 1 + 1]? = some (.cells #[.int .i64 0, .int .i64 0] 23 (0, 0)) := blk_at _ (by simp)
      generalize ((w.alloc (.cells #[.int .i64 t, .int .i64 l] 23)).alloc (.cells #[.int .i64 t', .int .i64 l'] 23)).alloc (.cells #[.int .i64 0, .int .i64 0] 23) = W0 at *
      refine (valid_calls t l _ h0 h1 h2 h3).mono ?_
      rintro e w1 ⟨rfl, hB1⟩
      rw [decide_eq_true hv.out]
      replace a1 := blk_below a1 hB1
      replace a2 := blk_below a2 hB1
      replace a3 := blk_below a3 hB1
      replace B0 := bl_then B0 hB1
      clear hB1
      obtain ⟨q1, q2, q3, q4⟩ := bx2 a2
      go_wp2_with fail
      refine (valid_calls t' l' _ h0' h1' h2' h3').mono ?_
      rintro e w2 ⟨rfl, hB2⟩
      rw [decide_eq_false hv'.out]
      replace a1 := blk_below a1 hB2
      replace a2 := blk_below a2 hB2
      replace a3 := blk_below a3 hB2
      replace B0 := bl_then B0 hB2
      clear hB2
      clear q1 q2 q3 q4
      obtain ⟨z1, z2, z3, z4⟩ := bx2 a3
      go_wp2
      refine bodyPost_ret (results_cell_tmp_row rfl _ _ (w.heap.size + 1 + 1) 23 #[.int .i64 0, .int .i64 0] (0, 0) _ _ rfl (by first | exact blk_set2 a3 _ _ | exact a3) Try.underlying23 rfl (by kernel_rfl) rfl) rfl ?_
      exact ⟨rfl, by first | exact B0 | exact bl_set (bl_set B0 (by show w.heap.size ≤ w.heap.size + 1 + 1; omega) _) (by show w.heap.size ≤ w.heap.size + 1 + 1; omega) _⟩
  · have e : ¬ ((OkN t l ∧ OkN t' l') ∧ t' = 0) := fun h => hv h.1.1
    have e2 : ¬ (OkN t l ∧ OkN t' l') := fun h => hv h.1
    unfold dT dL dE rT rL rE
    rw [if_neg e, if_neg e, if_neg e, if_neg e2, if_neg e2, if_neg e2]
    replace hv := Lib.hid hv
    clear e e2
    go_enter Try.func18, Try.ntmps18
    go_wp2_with fail
    have B0 := bl_alloc (bl_alloc (bl_alloc (Below.refl w.heap.size w) (.cells #[.int .i64 t, .int .i64 l] 23)) (.cells #[.int .i64 t', .int .i64 l'] 23)) (.cells #[.int .i64 0, .int .i64 0] 23)
    have a1 : (((w.alloc (.cells #[.int .i64 t, .int .i64 l] 23)).alloc (.cells #[.int .i64 t', .int .i64 l'] 23)).alloc (.cells #[.int .i64 0, .int .i64 0] 23)).heap[w.heap.size]? = some (.cells #[.int .i64 t, .int .i64 l] 23 (0, 0)) := blk_alloc (blk_alloc (blk_at _ rfl) _) _
    have a2 : (((w.alloc (.cells #[.int .i64 t, .int .i64 l] 23)).alloc (.cells #[.int .i64 t', .int .i64 l'] 23)).alloc (.cells #[.int .i64 0, .int .i64 0] 23)).heap[w.heap.size + 1]? = some (.cells #[.int .i64 t', .int .i64 l'] 23 (0, 0)) := blk_alloc (blk_at _ (by simp)) _
    have a3 : (((w.alloc (.cells #[.int .i64 t, .int .i64 l] 23)).alloc (.cells #[.int .i64 t', .int .i64 l'] 23)).alloc (.cells #[.int .i64 0, .int .i64 0] 23)).heap[w.heap.size + 1 + 1]? = some (.cells #[.int .i64 0, .int .i64 0] 23 (0, 0)) := blk_at _ (by simp)
    generalize ((w.alloc (.cells #[.int .i64 t, .int .i64 l] 23)).alloc (.cells #[.int .i64 t', .int .i64 l'] 23)).alloc (.cells #[.int .i64 0, .int .i64 0] 23) = W0 at *
    refine (valid_calls t l _ h0 h1 h2 h3).mono ?_
    rintro e w1 ⟨rfl, hB1⟩
    rw [decide_eq_false hv.out]
    replace a1 := blk_below a1 hB1
    replace a2 := blk_below a2 hB1
    replace a3 := blk_below a3 hB1
    replace B0 := bl_then B0 hB1
    clear hB1
    obtain ⟨z1, z2, z3, z4⟩ := bx2 a3
    go_wp2
    refine bodyPost_ret (results_cell_tmp_row rfl _ _ (w.heap.size + 1 + 1) 23 #[.int .i64 0, .int .i64 0] (0, 0) _ _ rfl (by first | exact blk_set2 a3 _ _ | exact a3) Try.underlying23 rfl (by kernel_rfl) rfl) rfl ?_
    exact ⟨rfl, by first | exact B0 | exact bl_set (bl_set B0 (by show w.heap.size ≤ w.heap.size + 1 + 1; omega) _) (by show w.heap.size ≤ w.heap.size + 1 + 1; omega) _⟩

/-- The result of Cmp. -/
def cR (t l t' l' : Int) : Int := if OkN t l ∧ OkN t' l' then (Rat.divInt t l - Rat.divInt t' l').num.sign else 0
def cE (t l t' l' : Int) : Int := if OkN t l ∧ OkN t' l' then 0 else 1
set_option maxHeartbeats 8000000 in
set_option maxRecDepth 100000 in
theorem ncmp_calls (t l t' l' : Int) (w : World) (h0 : -9223372036854775808 ≤ t) (h1 : t ≤ 9223372036854775807) (h2 : -9223372036854775808 ≤ l) (h3 : l ≤ 9223372036854775807) (h0' : -9223372036854775808 ≤ t') (h1' : t' ≤ 9223372036854775807) (h2' : -9223372036854775808 ≤ l') (h3' : l' ≤ 9223372036854775807) :
    Calls Try.prog 29 #[.agg #[.int .i64 t, .int .i64 l], .agg #[.int .i64 t', .int .i64 l']] w fun e w' => e = .returned (.tuple #[.int .i64 (cR t l t' l'), .int .i64 (cE t l t' l')]) ∧ Below w.heap.size w w' := by
  by_cases hv : OkN t l
  · by_cases hv' : OkN t' l'
    · have e2 : OkN t l ∧ OkN t' l' := ⟨hv, hv'⟩
      unfold cR cE
      rw [if_pos e2, if_pos e2]
      generalize hC : (Rat.divInt t l - Rat.divInt t' l').num.sign = oC
      replace hC := Lib.hid hC
      replace hv := Lib.hid hv
      replace hv' := Lib.hid hv'
      clear e2
      go_enter Try.func29, Try.ntmps29
      go_wp2_with fail
      have B0 := bl_alloc (bl_alloc (Below.refl w.heap.size w) (.cells #[.int .i64 t, .int .i64 l] 23)) (.cells #[.int .i64 t', .int .i64 l'] 23)
      have a1 : ((w.alloc (.cells #[.int .i64 t, .int .i64 l] 23)).alloc (.cells #[.int .i64 t', .int .i64 l'] 23)).heap[w.heap.size]? = some (.cells #[.int .i64 t, .int .i64 l] 23 (0, 0)) := blk_alloc (blk_at _ rfl) _
      have a2 : ((w.alloc (.cells #[.int .i64 t, .int .i64 l] 23)).alloc (.cells #[.int .i64 t', .int .i64 l'] 23)).heap[w.heap.size + 1]? = some (.cells #[.int .i64 t', .int .i64 l'] 23 (0, 0)) := blk_at _ (by simp)
      generalize (w.alloc (.cells #[.int .i64 t, .int .i64 l] 23)).alloc (.cells #[.int .i64 t', .int .i64 l'] 23) = W0 at *
      refine (valid_calls t l _ h0 h1 h2 h3).mono ?_
      rintro e w1 ⟨rfl, hB1⟩
      rw [decide_eq_true hv.out]
      replace a1 := blk_below a1 hB1
      replace a2 := blk_below a2 hB1
      replace B0 := bl_then B0 hB1
      clear hB1
      obtain ⟨q1, q2, q3, q4⟩ := bx2 a2
      go_wp2_with fail
      refine (valid_calls t' l' _ h0' h1' h2' h3').mono ?_
      rintro e w2 ⟨rfl, hB2⟩
      rw [decide_eq_true hv'.out]
      replace a1 := blk_below a1 hB2
      replace a2 := blk_below a2 hB2
      replace B0 := bl_then B0 hB2
      clear hB2
      clear q1 q2 q3 q4
      obtain ⟨p1, p2, p3, p4⟩ := bx2 a1
      obtain ⟨q1, q2, q3, q4⟩ := bx2 a2
      go_wp2_with fail
      go_region_held3 (fun W => W.cell? ⟨w.heap.size, 0, none⟩ = some (Value.int .i64 t) ∧ W.cell? ⟨w.heap.size, 1, none⟩ = some (Value.int .i64 l) ∧ W.cell? ⟨w.heap.size + 1, 0, none⟩ = some (Value.int .i64 t') ∧ W.cell? ⟨w.heap.size + 1, 1, none⟩ = some (Value.int .i64 l')) (first | with_reducible exact keep4 hB3 (by assumption) | with_reducible exact keep4 hB2 (by assumption) | with_reducible exact keep4 hB1 (by assumption) | exact ⟨p1, p2, q1, q2⟩ | with_reducible exact keep4_set2' (by assumption) (by omega) (by omega) | go_keep) (first | (have _hh := HB_2; go_at_call 36; refine (rcmp_calls v1 A1 n1 c1 v1' A1' n1' c1' _ v2 A2 n2 c2 v2' A2' n2' c2' _ _ g1_2 g2_2 64 (num_sz hv.out).1 (num_sz hv'.out).1 (by omega)).mono ?_; rintro e w3 ⟨he3, hB3⟩; rw [hC.out] at he3; subst he3; have HB_3 := bl_then HB_2 hB3) | (have _hh := HB_1; go_at_call_of 35 (Value.agg #[.int .i64 t', .int .i64 l']); refine (rat_calls t' l' _ h0' h1' h2' h3' (by have := hv'.out.1; omega)).mono ?_; rintro e w2 ⟨⟨v2, A2, n2, c2, v2', A2', n2', c2', rfl, g2_2⟩, hB2⟩; have g1_2 := g1_1.below hB2; have HB_2 := bl_then HB_1 hB2) | (go_at_call_of 35 (Value.agg #[.int .i64 t, .int .i64 l]); refine (rat_calls t l _ h0 h1 h2 h3 (by have := hv.out.1; omega)).mono ?_; rintro e w1 ⟨⟨v1, A1, n1, c1, v1', A1', n1', c1', rfl, g1_1⟩, hB1⟩; have HB_1 := (by first | exact bl_then B0 hB1 | exact bl_then (bl_drew B0) hB1)) | fail)
      all_goals
        go_wp2
        go_ret2
        exact ⟨rfl, HB_3⟩
    · have e2 : ¬ (OkN t l ∧ OkN t' l') := fun h => hv' h.2
      unfold cR cE
      rw [if_neg e2, if_neg e2]
      replace hv := Lib.hid hv
      replace hv' := Lib.hid hv'
      clear e2
      go_enter Try.func29, Try.ntmps29
      go_wp2_with fail
      have B0 := bl_alloc (bl_alloc (Below.refl w.heap.size w) (.cells #[.int .i64 t, .int .i64 l] 23)) (.cells #[.int .i64 t', .int .i64 l'] 23)
      have a1 : ((w.alloc (.cells #[.int .i64 t, .int .i64 l] 23)).alloc (.cells #[.int .i64 t', .int .i64 l'] 23)).heap[w.heap.size]? = some (.cells #[.int .i64 t, .int .i64 l] 23 (0, 0)) := blk_alloc (blk_at _ rfl) _
      have a2 : ((w.alloc (.cells #[.int .i64 t, .int .i64 l] 23)).alloc (.cells #[.int .i64 t', .int .i64 l'] 23)).heap[w.heap.size + 1]? = some (.cells #[.int .i64 t', .int .i64 l'] 23 (0, 0)) := blk_at _ (by simp)
      generalize (w.alloc (.cells #[.int .i64 t, .int .i64 l] 23)).alloc (.cells #[.int .i64 t', .int .i64 l'] 23) = W0 at *
      refine (valid_calls t l _ h0 h1 h2 h3).mono ?_
      rintro e w1 ⟨rfl, hB1⟩
      rw [decide_eq_true hv.out]
      replace a1 := blk_below a1 hB1
      replace a2 := blk_below a2 hB1
      replace B0 := bl_then B0 hB1
      clear hB1
      obtain ⟨q1, q2, q3, q4⟩ := bx2 a2
      go_wp2_with fail
      refine (valid_calls t' l' _ h0' h1' h2' h3').mono ?_
      rintro e w2 ⟨rfl, hB2⟩
      rw [decide_eq_false hv'.out]
      replace a1 := blk_below a1 hB2
      replace a2 := blk_below a2 hB2
      replace B0 := bl_then B0 hB2
      clear hB2
      clear q1 q2 q3 q4
      go_wp2
      go_ret2
      exact ⟨rfl, B0⟩
  · have e2 : ¬ (OkN t l ∧ OkN t' l') := fun h => hv h.1
    unfold cR cE
    rw [if_neg e2, if_neg e2]
    replace hv := Lib.hid hv
    clear e2
    go_enter Try.func29, Try.ntmps29
    go_wp2_with fail
    have B0 := bl_alloc (bl_alloc (Below.refl w.heap.size w) (.cells #[.int .i64 t, .int .i64 l] 23)) (.cells #[.int .i64 t', .int .i64 l'] 23)
    have a1 : ((w.alloc (.cells #[.int .i64 t, .int .i64 l] 23)).alloc (.cells #[.int .i64 t', .int .i64 l'] 23)).heap[w.heap.size]? = some (.cells #[.int .i64 t, .int .i64 l] 23 (0, 0)) := blk_alloc (blk_at _ rfl) _
    have a2 : ((w.alloc (.cells #[.int .i64 t, .int .i64 l] 23)).alloc (.cells #[.int .i64 t', .int .i64 l'] 23)).heap[w.heap.size + 1]? = some (.cells #[.int .i64 t', .int .i64 l'] 23 (0, 0)) := blk_at _ (by simp)
    generalize (w.alloc (.cells #[.int .i64 t, .int .i64 l] 23)).alloc (.cells #[.int .i64 t', .int .i64 l'] 23) = W0 at *
    refine (valid_calls t l _ h0 h1 h2 h3).mono ?_
    rintro e w1 ⟨rfl, hB1⟩
    rw [decide_eq_false hv.out]
    replace a1 := blk_below a1 hB1
    replace a2 := blk_below a2 hB1
    replace B0 := bl_then B0 hB1
    clear hB1
    go_wp2
    go_ret2
    exact ⟨rfl, B0⟩

/-- The result of Make. -/
def mT (x y : Int) : Int := if y = 0 then 0 else outT (Rat.divInt x y)
def mL (x y : Int) : Int := if y = 0 then 0 else outL (Rat.divInt x y)
def mE (x y : Int) : Int := if y = 0 then 6 else outE (Rat.divInt x y)
set_option maxHeartbeats 4000000 in
set_option maxRecDepth 100000 in
theorem nmake_calls (x y : Int) (w : World) (h0 : -9223372036854775808 ≤ x) (h1 : x ≤ 9223372036854775807) (h2 : -9223372036854775808 ≤ y) (h3 : y ≤ 9223372036854775807) :
    Calls Try.prog 19 #[.int .i64 x, .int .i64 y] w fun e w' => NumR e (mT x y) (mL x y) (mE x y) ∧ Below w.heap.size w w' := by
  unfold mT mL mE
  have a3 : (w.alloc (.cells #[.int .i64 0, .int .i64 0] 23)).heap[w.heap.size]? = some (.cells #[.int .i64 0, .int .i64 0] 23 (0, 0)) := blk_at _ rfl
  have B0 := bl_alloc (Below.refl w.heap.size w) (.cells #[.int .i64 0, .int .i64 0] 23)
  by_cases hz : y = 0
  · rw [if_pos hz, if_pos hz, if_pos hz]
    subst hz
    obtain ⟨z1, z2, z3, z4⟩ := bx2 a3
    go_enter Try.func19, Try.ntmps19
    go_wp2
    refine bodyPost_ret (results_cell_tmp_row rfl _ _ w.heap.size 23 #[.int .i64 0, .int .i64 0] (0, 0) _ _ rfl (by first | exact a3 | exact blk_set2 a3 _ _) Try.underlying23 rfl (by kernel_rfl) rfl) rfl ?_
    exact ⟨rfl, by first | exact B0 | exact bl_set (bl_set B0 (Nat.le_refl _) _) (Nat.le_refl _) _⟩
  · rw [if_neg hz, if_neg hz, if_neg hz]
    have hzb : (y == 0) = false := by simp [hz]
    replace hz : Hid (y ≠ 0) := Lib.hid hz
    generalize hT : outT (Rat.divInt x y) = oT
    generalize hL : outL (Rat.divInt x y) = oL
    generalize hE : outE (Rat.divInt x y) = oE
    replace hT := Lib.hid hT
    replace hL := Lib.hid hL
    replace hE := Lib.hid hE
    go_enter Try.func19, Try.ntmps19
    go_wp2_with fail
    refine (of_calls x _ h0 h1).mono ?_
    rintro e w1 ⟨v1, A1, n1, c1, rfl, g1, hB1⟩
    replace a3 := blk_below a3 hB1
    replace B0 := bl_then B0 hB1
    clear hB1
    go_wp2_with fail
    refine (of_calls y _ h2 h3).mono ?_
    rintro e w2 ⟨v2, A2, n2, c2, rfl, g2, hB2⟩
    replace a3 := blk_below a3 hB2
    replace B0 := bl_then B0 hB2
    replace g1 := g1.below hB2
    clear hB2
    go_wp2_with fail
    refine (ratio_calls v1 A1 n1 c1 x v2 A2 n2 c2 y _ g1 g2 64 (Sz.small (by omega) (by omega)) (Sz.small (by omega) (by omega)) (by omega) hz.out).mono ?_
    rintro e w3 ⟨⟨v3, A3, n3, c3, v3', A3', n3', c3', rfl, g3⟩, hB3⟩
    replace a3 := blk_below a3 hB3
    replace B0 := bl_then B0 hB3
    clear hB3 g1 g2
    go_wp2_with fail
    refine (out_calls v3 A3 n3 c3 v3' A3' n3' c3' _ _ g3).mono ?_
    rintro e w4 ⟨he, hB4⟩
    rw [hT.out, hL.out, hE.out] at he
    unfold NumR at he
    subst he
    replace a3 := blk_below a3 hB4
    replace B0 := bl_then B0 hB4
    clear hB4
    obtain ⟨z1, z2, z3, z4⟩ := bx2 a3
    go_wp2
    refine bodyPost_ret (results_cell_tmp_row rfl _ _ w.heap.size 23 #[.int .i64 oT, .int .i64 oL] (0, 0) _ _ rfl (by exact blk_set2 a3 _ _) Try.underlying23 rfl (by kernel_rfl) rfl) rfl ?_
    exact ⟨rfl, bl_set (bl_set B0 (Nat.le_refl _) _) (Nat.le_refl _) _⟩

/-- The result of Floor. -/
def flR (t l : Int) : Int := if OkN t l then (Rat.divInt t l).floor else 0
def flE (t l : Int) : Int := if OkN t l then 0 else 1
set_option maxHeartbeats 4000000 in
set_option maxRecDepth 100000 in
theorem nfloor_calls (t l : Int) (w : World) (h0 : -9223372036854775808 ≤ t) (h1 : t ≤ 9223372036854775807) (h2 : -9223372036854775808 ≤ l) (h3 : l ≤ 9223372036854775807) :
    Calls Try.prog 21 #[.agg #[.int .i64 t, .int .i64 l]] w fun e w' => e = .returned (.tuple #[.int .i64 (flR t l), .int .i64 (flE t l)]) ∧ Below w.heap.size w w' := by
  unfold flR flE
  by_cases hv : OkN t l
  · rw [if_pos hv, if_pos hv]
    have N := num_sz hv
    have FB := floor_bd (Rat.divInt t l) (by rw [N.2.1]; have := hv.2.2; omega) (by rw [N.2.1]; have := hv.2.2; omega)
    have SZ := Lib.hid N.1
    generalize hF : (Rat.divInt t l).floor = fl at *
    replace hF := Lib.hid hF
    clear N
    replace hv := Lib.hid hv
    go_enter Try.func21, Try.ntmps21
    go_wp2_with fail
    have B0 := bl_alloc (Below.refl w.heap.size w) (.cells #[.int .i64 t, .int .i64 l] 23)
    have a1 : (w.alloc (.cells #[.int .i64 t, .int .i64 l] 23)).heap[w.heap.size]? = some (.cells #[.int .i64 t, .int .i64 l] 23 (0, 0)) := blk_at _ rfl
    generalize w.alloc (.cells #[.int .i64 t, .int .i64 l] 23) = W0 at *
    refine (valid_calls t l _ h0 h1 h2 h3).mono ?_
    rintro e w1 ⟨rfl, hB1⟩
    rw [decide_eq_true hv.out]
    replace a1 := blk_below a1 hB1
    replace B0 := bl_then B0 hB1
    clear hB1
    obtain ⟨p1, p2, p3, p4⟩ := bx2 a1
    go_wp2_with fail
    refine (rat_calls t l _ h0 h1 h2 h3 (by have := hv.out.1; omega)).mono ?_
    rintro e w2 ⟨⟨v2, A2, n2, c2, v2', A2', n2', c2', rfl, g2⟩, hB2⟩
    replace B0 := bl_then B0 hB2
    clear hB2 p1 p2 p3 p4 a1
    go_wp2_with fail
    refine (rfloor_calls v2 A2 n2 c2 v2' A2' n2' c2' _ _ g2 64 SZ.out (by omega)).mono ?_
    rintro e w3 ⟨⟨v3, A3, n3, c3, rfl, g3⟩, hB3⟩
    rw [hF.out] at g3
    replace B0 := bl_then B0 hB3
    clear hB3 g2
    go_wp2_with fail
    refine (int_yes v3 A3 n3 c3 fl 1152921504606846976 _ g3 (by omega) (by omega) (by omega)).mono ?_
    rintro e w4 ⟨rfl, hB4⟩
    replace B0 := bl_then B0 hB4
    clear hB4
    go_wp2
    go_ret2
    exact ⟨rfl, B0⟩
  · rw [if_neg hv, if_neg hv]
    replace hv := Lib.hid hv
    go_enter Try.func21, Try.ntmps21
    go_wp2_with fail
    have B0 := bl_alloc (Below.refl w.heap.size w) (.cells #[.int .i64 t, .int .i64 l] 23)
    have a1 : (w.alloc (.cells #[.int .i64 t, .int .i64 l] 23)).heap[w.heap.size]? = some (.cells #[.int .i64 t, .int .i64 l] 23 (0, 0)) := blk_at _ rfl
    generalize w.alloc (.cells #[.int .i64 t, .int .i64 l] 23) = W0 at *
    refine (valid_calls t l _ h0 h1 h2 h3).mono ?_
    rintro e w1 ⟨rfl, hB1⟩
    rw [decide_eq_false hv.out]
    replace a1 := blk_below a1 hB1
    replace B0 := bl_then B0 hB1
    clear hB1
    go_wp2
    go_ret2
    exact ⟨rfl, B0⟩

/-- The result of Ceil. -/
def ceR (t l : Int) : Int := if OkN t l then -(-Rat.divInt t l).floor else 0
def ceE (t l : Int) : Int := if OkN t l then 0 else 1
set_option maxHeartbeats 4000000 in
set_option maxRecDepth 100000 in
theorem nceil_calls (t l : Int) (w : World) (h0 : -9223372036854775808 ≤ t) (h1 : t ≤ 9223372036854775807) (h2 : -9223372036854775808 ≤ l) (h3 : l ≤ 9223372036854775807) :
    Calls Try.prog 23 #[.agg #[.int .i64 t, .int .i64 l]] w fun e w' => e = .returned (.tuple #[.int .i64 (ceR t l), .int .i64 (ceE t l)]) ∧ Below w.heap.size w w' := by
  unfold ceR ceE
  by_cases hv : OkN t l
  · rw [if_pos hv, if_pos hv]
    have N := num_sz hv
    have FB := floor_bd (-Rat.divInt t l) (by rw [Rat.neg_num, N.2.1]; have := hv.2.2; omega) (by rw [Rat.neg_num, N.2.1]; have := hv.2.2; omega)
    have SZ := Lib.hid N.1
    generalize hF : (-Rat.divInt t l).floor = fl at *
    replace hF := Lib.hid hF
    clear N
    replace hv := Lib.hid hv
    go_enter Try.func23, Try.ntmps23
    go_wp2_with fail
    have B0 := bl_alloc (Below.refl w.heap.size w) (.cells #[.int .i64 t, .int .i64 l] 23)
    have a1 : (w.alloc (.cells #[.int .i64 t, .int .i64 l] 23)).heap[w.heap.size]? = some (.cells #[.int .i64 t, .int .i64 l] 23 (0, 0)) := blk_at _ rfl
    generalize w.alloc (.cells #[.int .i64 t, .int .i64 l] 23) = W0 at *
    refine (valid_calls t l _ h0 h1 h2 h3).mono ?_
    rintro e w1 ⟨rfl, hB1⟩
    rw [decide_eq_true hv.out]
    replace a1 := blk_below a1 hB1
    replace B0 := bl_then B0 hB1
    clear hB1
    obtain ⟨p1, p2, p3, p4⟩ := bx2 a1
    go_wp2_with fail
    refine (rat_calls t l _ h0 h1 h2 h3 (by have := hv.out.1; omega)).mono ?_
    rintro e w2 ⟨⟨v2, A2, n2, c2, v2', A2', n2', c2', rfl, g2⟩, hB2⟩
    replace B0 := bl_then B0 hB2
    clear hB2 p1 p2 p3 p4 a1
    go_wp2_with fail
    refine (rneg_calls v2 A2 n2 c2 v2' A2' n2' c2' _ _ g2).mono ?_
    rintro e w5 ⟨⟨v5, A5, n5, c5, v5', A5', n5', c5', rfl, g5⟩, hB5⟩
    replace B0 := bl_then B0 hB5
    clear hB5 g2
    go_wp2_with fail
    refine (rfloor_calls v5 A5 n5 c5 v5' A5' n5' c5' _ _ g5 64 SZ.out.neg (by omega)).mono ?_
    rintro e w3 ⟨⟨v3, A3, n3, c3, rfl, g3⟩, hB3⟩
    rw [hF.out] at g3
    replace B0 := bl_then B0 hB3
    clear hB3 g5
    go_wp2_with fail
    refine (int_yes v3 A3 n3 c3 fl 1152921504606846976 _ g3 (by omega) (by omega) (by omega)).mono ?_
    rintro e w4 ⟨rfl, hB4⟩
    replace B0 := bl_then B0 hB4
    clear hB4
    go_wp2
    go_ret2
    exact ⟨rfl, B0⟩
  · rw [if_neg hv, if_neg hv]
    replace hv := Lib.hid hv
    go_enter Try.func23, Try.ntmps23
    go_wp2_with fail
    have B0 := bl_alloc (Below.refl w.heap.size w) (.cells #[.int .i64 t, .int .i64 l] 23)
    have a1 : (w.alloc (.cells #[.int .i64 t, .int .i64 l] 23)).heap[w.heap.size]? = some (.cells #[.int .i64 t, .int .i64 l] 23 (0, 0)) := blk_at _ rfl
    generalize w.alloc (.cells #[.int .i64 t, .int .i64 l] 23) = W0 at *
    refine (valid_calls t l _ h0 h1 h2 h3).mono ?_
    rintro e w1 ⟨rfl, hB1⟩
    rw [decide_eq_false hv.out]
    replace a1 := blk_below a1 hB1
    replace B0 := bl_then B0 hB1
    clear hB1
    go_wp2
    go_ret2
    exact ⟨rfl, B0⟩
end Go.Proofs.Ytijdnlkojflnkaa
