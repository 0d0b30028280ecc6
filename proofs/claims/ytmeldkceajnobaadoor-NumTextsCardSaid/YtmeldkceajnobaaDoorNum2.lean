/- num: with, Add, Sub, Mul, Div, Cmp, Make, Floor, Ceil. -/
import Derived.Test.YtmeldkceajnobaaDoorNum1
set_option linter.unusedVariables false
set_option linter.unusedSimpArgs false
namespace Go.Proofs.YtmeldkceajnobaaDoor
open Go.RowKit

/-- The result of an operation on numbers: top, low, error; b: both are valid. -/
def rT (b : Prop) [Decidable b] (q : Rat) : Int := if b then outT q else 0
def rL (b : Prop) [Decidable b] (q : Rat) : Int := if b then outL q else 0
def rE (b : Prop) [Decidable b] (q : Rat) : Int := if b then outE q else 1
theorem outT_bd (q : Rat) : -1152921504606846976 ≤ outT q ∧ outT q ≤ 1152921504606846976 := by
  unfold outT
  by_cases h : Fits q
  · rw [if_pos h]; exact ⟨h.1, h.2.1⟩
  · rw [if_neg h]; omega
theorem outL_bd (q : Rat) : 0 ≤ outL q ∧ outL q ≤ 1152921504606846976 := by
  unfold outL
  by_cases h : Fits q
  · rw [if_pos h]; exact ⟨by omega, h.2.2⟩
  · rw [if_neg h]; omega
theorem num_sz {t l : Int} (h : OkN t l) : SzR 64 (Rat.divInt t l) ∧ (Rat.divInt t l).num = t ∧ ((Rat.divInt t l).den : Int) = l := by
  obtain ⟨h1, h2, h3, h4, h5⟩ := h
  have e1 := divInt_num (x := t) (y := l) (by omega)
  have e2 := divInt_den (x := t) (y := l) (by omega)
  rw [h5, Int.sign_eq_one_of_pos (by omega)] at e1 e2
  simp at e1 e2
  refine ⟨⟨?_, ?_⟩, e1, e2⟩
  · rw [e1]; exact Sz.small (by omega) (by omega)
  · rw [e2]; exact Sz.small (by omega) (by omega)
theorem keep4_set2' {w : World} {ga gb g : Nat} {x1 x2 x3 x4 y1 y2 : Value} (h : w.cell? ⟨ga, 0, none⟩ = some x1 ∧ w.cell? ⟨ga, 1, none⟩ = some x2 ∧ w.cell? ⟨gb, 0, none⟩ = some x3 ∧ w.cell? ⟨gb, 1, none⟩ = some x4) (ea : ga ≠ g) (eb : gb ≠ g) :
    let W := (w.setCell ⟨g, 0, none⟩ y1).setCell ⟨g, 1, none⟩ y2
    W.cell? ⟨ga, 0, none⟩ = some x1 ∧ W.cell? ⟨ga, 1, none⟩ = some x2 ∧ W.cell? ⟨gb, 0, none⟩ = some x3 ∧ W.cell? ⟨gb, 1, none⟩ = some x4 :=
  keep4_set1 (keep4_set1 h ea ea eb eb) ea ea eb eb

set_option maxHeartbeats 8000000 in
set_option maxRecDepth 100000 in
theorem with_nadd_calls (q : Rat) (t l t' l' : Int) (w : World) (h0 : -9223372036854775808 ≤ t) (h1 : t ≤ 9223372036854775807) (h2 : -9223372036854775808 ≤ l) (h3 : l ≤ 9223372036854775807) (h0' : -9223372036854775808 ≤ t') (h1' : t' ≤ 9223372036854775807) (h2' : -9223372036854775808 ≤ l') (h3' : l' ≤ 9223372036854775807)
    (hF : OkN t l → OkN t' l' → ∀ (v1 : Int) (A1 : Option Addr) (n1 c1 : Nat) (v1' : Int) (A1' : Option Addr) (n1' c1' : Nat) (v2 : Int) (A2 : Option Addr) (n2 c2 : Nat) (v2' : Int) (A2' : Option Addr) (n2' c2' : Nat) (w : World), RatV w v1 A1 n1 c1 v1' A1' n1' c1' (Rat.divInt t l) → RatV w v2 A2 n2 c2 v2' A2' n2' c2' (Rat.divInt t' l') →
      Calls Tryd.prog 28 #[.agg #[.int .i64 v1, .slice A1 n1 c1, .int .i64 v1', .slice A1' n1' c1'], .agg #[.int .i64 v2, .slice A2 n2 c2, .int .i64 v2', .slice A2' n2' c2']] w fun e w' => RatR e w' q ∧ Below w.heap.size w w') :
    Calls Tryd.prog 27 #[.agg #[.int .i64 t, .int .i64 l], .agg #[.int .i64 t', .int .i64 l'], .func (.func 28) #[] #[]] w fun e w' => NumR e (rT (OkN t l ∧ OkN t' l') q) (rL (OkN t l ∧ OkN t' l') q) (rE (OkN t l ∧ OkN t' l') q) ∧ Below w.heap.size w w' := by
  by_cases hv : OkN t l
  · by_cases hv' : OkN t' l'
    · have e := And.intro hv hv'
      unfold rT rL rE
      rw [if_pos e, if_pos e, if_pos e]
      replace hF := Lib.hid (hF hv hv')
      replace hv := Lib.hid hv
      replace hv' := Lib.hid hv'
      clear e
      generalize hT : outT q = oT
      generalize hL : outL q = oL
      generalize hE : outE q = oE
      replace hT := Lib.hid hT
      replace hL := Lib.hid hL
      replace hE := Lib.hid hE
      go_enter Tryd.func27, Tryd.ntmps27
      go_wp2_with fail
      have B0 := bl_alloc (bl_alloc (bl_alloc (Below.refl w.heap.size w) (.cells #[.int .i64 t, .int .i64 l] 23)) (.cells #[.int .i64 t', .int .i64 l'] 23)) (.cells #[.int .i64 0, .int .i64 0] 23)
      have a1 : (((w.alloc (.cells #[.int .i64 t, .int .i64 l] 23)).alloc (.cells #[.int .i64 t', .int .i64 l'] 23)).alloc (.cells #[.int .i64 0, .int .i64 0] 23)).heap[w.heap.size]? = some (.cells #[.int .i64 t, .int .i64 l] 23 (0, 0)) := blk_alloc (blk_alloc (blk_at _ rfl) _) _
      have a2 : (((w.alloc (.cells #[.int .i64 t, .int .i64 l] 23)).alloc (.cells #[.int .i64 t', .int .i64 l'] 23)).alloc (.cells #[.int .i64 0, .int .i64 0] 23)).heap[w.heap.size + 1]? = some (.cells #[.int .i64 t', .int .i64 l'] 23 (0, 0)) := blk_alloc (blk_at _ (by simp)) _
      have a3 : (((w.alloc (.cells #[.int .i64 t, .int .i64 l] 23)).alloc (.cells #[.int .i64 t', .int .i64 l'] 23)).alloc (.cells #[.int .i64 0, .int .i64 0] 23)).heap[w.heap.size + 1 + 1]? = some (.cells #[.int .i64 0, .int .i64 0] 23 (0, 0)) := blk_at _ (by simp)
      generalize ((w.alloc (.cells #[.int .i64 t, .int .i64 l] 23)).alloc (.cells #[.int .i64 t', .int .i64 l'] 23)).alloc (.cells #[.int .i64 0, .int .i64 0] 23) = W0 at *
      refine (valid_calls t l _ h0 h1 h2 h3).mono ?_
      rintro e w1 ⟨rfl, hB1⟩
      rw [decide_eq_true hv.out]
      replace a1 := blk_below a1 hB1
      replace a2 := blk_below a2 hB1
      replace a3 := blk_below a3 hB1
      replace B0 := bl_then B0 hB1
      clear hB1
      obtain ⟨q1, q2, q3, q4⟩ := bx2 a2
      go_wp2_with fail
      refine (valid_calls t' l' _ h0' h1' h2' h3').mono ?_
      rintro e w2 ⟨rfl, hB2⟩
      rw [decide_eq_true hv'.out]
      replace a1 := blk_below a1 hB2
      replace a2 := blk_below a2 hB2
      replace a3 := blk_below a3 hB2
      replace B0 := bl_then B0 hB2
      clear hB2
      clear q1 q2 q3 q4
      obtain ⟨p1, p2, p3, p4⟩ := bx2 a1
      obtain ⟨q1, q2, q3, q4⟩ := bx2 a2
      go_wp2_with fail
      go_region_held3 (fun W => W.cell? ⟨w.heap.size, 0, none⟩ = some (Value.int .i64 t) ∧ W.cell? ⟨w.heap.size, 1, none⟩ = some (Value.int .i64 l) ∧ W.cell? ⟨w.heap.size + 1, 0, none⟩ = some (Value.int .i64 t') ∧ W.cell? ⟨w.heap.size + 1, 1, none⟩ = some (Value.int .i64 l')) (first | with_reducible exact keep4 hB4 (by assumption) | with_reducible exact keep4 hB3 (by assumption) | with_reducible exact keep4 hB2 (by assumption) | with_reducible exact keep4 hB1 (by assumption) | exact ⟨p1, p2, q1, q2⟩ | with_reducible exact keep4_set2' (by assumption) (by omega) (by omega) | go_keep) (first | (have _hh := HB_3; go_at_call 20; refine (out_calls v3 A3 n3 c3 v3' A3' n3' c3' _ _ g3_3).mono ?_; rintro e w4 ⟨he4, hB4⟩; unfold NumR at he4; rw [hT.out, hL.out, hE.out] at he4; subst he4; have aR_4 := blk_below aR_3 hB4; have HB_4 := bl_then HB_3 hB4; obtain ⟨z1, z2, z3, z4⟩ := bx2 aR_4) | (have _hh := HB_2; go_at_call 28; refine (hF.out v1 A1 n1 c1 v1' A1' n1' c1' v2 A2 n2 c2 v2' A2' n2' c2' _ g1_2 g2_2).mono ?_; rintro e w3 ⟨⟨v3, A3, n3, c3, v3', A3', n3', c3', rfl, g3_3⟩, hB3⟩; have aR_3 := blk_below aR_2 hB3; have HB_3 := bl_then HB_2 hB3) | (have _hh := HB_1; go_at_call_of 29 (Value.agg #[.int .i64 t', .int .i64 l']); refine (rat_calls t' l' _ h0' h1' h2' h3' (by have := hv'.out.1; omega)).mono ?_; rintro e w2 ⟨⟨v2, A2, n2, c2, v2', A2', n2', c2', rfl, g2_2⟩, hB2⟩; have g1_2 := g1_1.below hB2; have aR_2 := blk_below aR_1 hB2; have HB_2 := bl_then HB_1 hB2) | (go_at_call_of 29 (Value.agg #[.int .i64 t, .int .i64 l]); refine (rat_calls t l _ h0 h1 h2 h3 (by have := hv.out.1; omega)).mono ?_; rintro e w1 ⟨⟨v1, A1, n1, c1, v1', A1', n1', c1', rfl, g1_1⟩, hB1⟩; have aR_1 := (by first | exact blk_below a3 hB1 | exact blk_below (blk_drew a3) hB1); have HB_1 := (by first | exact bl_then B0 hB1 | exact bl_then (bl_drew B0) hB1)) | fail)
      all_goals
        go_wp2
        refine bodyPost_ret (results_cell_tmp_row rfl _ _ (w.heap.size + 1 + 1) 23 #[.int .i64 oT, .int .i64 oL] (0, 0) _ _ rfl (by exact blk_set2 aR_4 _ _) Tryd.underlying23 rfl (by kernel_rfl) rfl) rfl ?_
        exact ⟨rfl, bl_set (bl_set HB_4 (by show w.heap.size ≤ w.heap.size + 1 + 1; omega) _) (by show w.heap.size ≤ w.heap.size + 1 + 1; omega) _⟩
    · have e : ¬ (OkN t l ∧ OkN t' l') := fun h => hv' h.2
      unfold rT rL rE
      rw [if_neg e, if_neg e, if_neg e]
      replace hv := Lib.hid hv
      replace hv' := Lib.hid hv'
      clear e hF
      go_enter Tryd.func27, Tryd.ntmps27
      go_wp2_with fail
      have B0 := bl_alloc (bl_alloc (bl_alloc (Below.refl w.heap.size w) (.cells #[.int .i64 t, .int .i64 l] 23)) (.cells #[.int .i64 t', .int .i64 l'] 23)) (.cells #[.int .i64 0, .int .i64 0] 23)
      have a1 : (((w.alloc (.cells #[.int .i64 t, .int .i64 l] 23)).alloc (.cells #[.int .i64 t', .int .i64 l'] 23)).alloc (.cells #[.int .i64 0, .int .i64 0] 23)).heap[w.heap.size]? = some (.cells #[.int .i64 t, .int .i64 l] 23 (0, 0)) := blk_alloc (blk_alloc (blk_at _ rfl) _) _
      have a2 : (((w.alloc (.cells #[.int .i64 t, .int .i64 l] 23)).alloc (.cells #[.int .i64 t', .int .i64 l'] 23)).alloc (.cells #[.int .i64 0, .int .i64 0] 23)).heap[w.heap.size + 1]? = some (.cells #[.int .i64 t', .int .i64 l'] 23 (0, 0)) := blk_alloc (blk_at _ (by simp)) _
      have a3 : (((w.alloc (.cells #[.int .i64 t, .int .i64 l] 23)).alloc (.cells #[.int .i64 t', .int .i64 l'] 23)).alloc (.cells #[.int .i64 0, .int .i64 0] 23)).heap[w.heap.size + 1 + 1]? = some (.cells #[.int .i64 0, .int .i64 0] 23 (0, 0)) := blk_at _ (by simp)
      generalize ((w.alloc (.cells #[.int .i64 t, .int .i64 l] 23)).alloc (.cells #[.int .i64 t', .int .i64 l'] 23)).alloc (.cells #[.int .i64 0, .int .i64 0] 23) = W0 at *
      refine (valid_calls t l _ h0 h1 h2 h3).mono ?_
      rintro e w1 ⟨rfl, hB1⟩
      rw [decide_eq_true hv.out]
      replace a1 := blk_below a1 hB1
      replace a2 := blk_below a2 hB1
      replace a3 := blk_below a3 hB1
      replace B0 := bl_then B0 hB1
      clear hB1
      obtain ⟨q1, q2, q3, q4⟩ := bx2 a2
      go_wp2_with fail
      refine (valid_calls t' l' _ h0' h1' h2' h3').mono ?_
      rintro e w2 ⟨rfl, hB2⟩
      rw [decide_eq_false hv'.out]
      replace a1 := blk_below a1 hB2
      replace a2 := blk_below a2 hB2
      replace a3 := blk_below a3 hB2
      replace B0 := bl_then B0 hB2
      clear hB2
      clear q1 q2 q3 q4
      obtain ⟨z1, z2, z3, z4⟩ := bx2 a3
      go_wp2
      refine bodyPost_ret (results_cell_tmp_row rfl _ _ (w.heap.size + 1 + 1) 23 #[.int .i64 0, .int .i64 0] (0, 0) _ _ rfl (by first | exact blk_set2 a3 _ _ | exact a3) Tryd.underlying23 rfl (by kernel_rfl) rfl) rfl ?_
      exact ⟨rfl, by first | exact B0 | exact bl_set (bl_set B0 (by show w.heap.size ≤ w.heap.size + 1 + 1; omega) _) (by show w.heap.size ≤ w.heap.size + 1 + 1; omega) _⟩
  · have e : ¬ (OkN t l ∧ OkN t' l') := fun h => hv h.1
    unfold rT rL rE
    rw [if_neg e, if_neg e, if_neg e]
    replace hv := Lib.hid hv
    clear e hF
    go_enter Tryd.func27, Tryd.ntmps27
    go_wp2_with fail
    have B0 := bl_alloc (bl_alloc (bl_alloc (Below.refl w.heap.size w) (.cells #[.int .i64 t, .int .i64 l] 23)) (.cells #[.int .i64 t', .int .i64 l'] 23)) (.cells #[.int .i64 0, .int .i64 0] 23)
    have a1 : (((w.alloc (.cells #[.int .i64 t, .int .i64 l] 23)).alloc (.cells #[.int .i64 t', .int .i64 l'] 23)).alloc (.cells #[.int .i64 0, .int .i64 0] 23)).heap[w.heap.size]? = some (.cells #[.int .i64 t, .int .i64 l] 23 (0, 0)) := blk_alloc (blk_alloc (blk_at _ rfl) _) _
    have a2 : (((w.alloc (.cells #[.int .i64 t, .int .i64 l] 23)).alloc (.cells #[.int .i64 t', .int .i64 l'] 23)).alloc (.cells #[.int .i64 0, .int .i64 0] 23)).heap[w.heap.size + 1]? = some (.cells #[.int .i64 t', .int .i64 l'] 23 (0, 0)) := blk_alloc (blk_at _ (by simp)) _
    have a3 : (((w.alloc (.cells #[.int .i64 t, .int .i64 l] 23)).alloc (.cells #[.int .i64 t', .int .i64 l'] 23)).alloc (.cells #[.int .i64 0, .int .i64 0] 23)).heap[w.heap.size + 1 + 1]? = some (.cells #[.int .i64 0, .int .i64 0] 23 (0, 0)) := blk_at _ (by simp)
    generalize ((w.alloc (.cells #[.int .i64 t, .int .i64 l] 23)).alloc (.cells #[.int .i64 t', .int .i64 l'] 23)).alloc (.cells #[.int .i64 0, .int .i64 0] 23) = W0 at *
    refine (valid_calls t l _ h0 h1 h2 h3).mono ?_
    rintro e w1 ⟨rfl, hB1⟩
    rw [decide_eq_false hv.out]
    replace a1 := blk_below a1 hB1
    replace a2 := blk_below a2 hB1
    replace a3 := blk_below a3 hB1
    replace B0 := bl_then B0 hB1
    clear hB1
    obtain ⟨z1, z2, z3, z4⟩ := bx2 a3
    go_wp2
    refine bodyPost_ret (results_cell_tmp_row rfl _ _ (w.heap.size + 1 + 1) 23 #[.int .i64 0, .int .i64 0] (0, 0) _ _ rfl (by first | exact blk_set2 a3 _ _ | exact a3) Tryd.underlying23 rfl (by kernel_rfl) rfl) rfl ?_
    exact ⟨rfl, by first | exact B0 | exact bl_set (bl_set B0 (by show w.heap.size ≤ w.heap.size + 1 + 1; omega) _) (by show w.heap.size ≤ w.heap.size + 1 + 1; omega) _⟩

set_option maxHeartbeats 4000000 in
set_option maxRecDepth 100000 in
theorem nadd_calls (t l t' l' : Int) (w : World) (h0 : -9223372036854775808 ≤ t) (h1 : t ≤ 9223372036854775807) (h2 : -9223372036854775808 ≤ l) (h3 : l ≤ 9223372036854775807) (h0' : -9223372036854775808 ≤ t') (h1' : t' ≤ 9223372036854775807) (h2' : -9223372036854775808 ≤ l') (h3' : l' ≤ 9223372036854775807) :
    Calls Tryd.prog 9 #[.agg #[.int .i64 t, .int .i64 l], .agg #[.int .i64 t', .int .i64 l']] w fun e w' => NumR e (rT (OkN t l ∧ OkN t' l') (Rat.divInt t l + Rat.divInt t' l')) (rL (OkN t l ∧ OkN t' l') (Rat.divInt t l + Rat.divInt t' l')) (rE (OkN t l ∧ OkN t' l') (Rat.divInt t l + Rat.divInt t' l')) ∧ Below w.heap.size w w' := by
  generalize hT : rT (OkN t l ∧ OkN t' l') (Rat.divInt t l + Rat.divInt t' l') = oT
  replace hT := Lib.hid hT
  generalize hL : rL (OkN t l ∧ OkN t' l') (Rat.divInt t l + Rat.divInt t' l') = oL
  replace hL := Lib.hid hL
  generalize hE : rE (OkN t l ∧ OkN t' l') (Rat.divInt t l + Rat.divInt t' l') = oE
  replace hE := Lib.hid hE
  go_enter Tryd.func9, Tryd.ntmps9
  go_wp2_with fail
  have B0 := bl_alloc (bl_alloc (bl_alloc (Below.refl w.heap.size w) (.cells #[.int .i64 t, .int .i64 l] 23)) (.cells #[.int .i64 t', .int .i64 l'] 23)) (.cells #[.int .i64 0, .int .i64 0] 23)
  have a1 : (((w.alloc (.cells #[.int .i64 t, .int .i64 l] 23)).alloc (.cells #[.int .i64 t', .int .i64 l'] 23)).alloc (.cells #[.int .i64 0, .int .i64 0] 23)).heap[w.heap.size]? = some (.cells #[.int .i64 t, .int .i64 l] 23 (0, 0)) := blk_alloc (blk_alloc (blk_at _ rfl) _) _
  have a2 : (((w.alloc (.cells #[.int .i64 t, .int .i64 l] 23)).alloc (.cells #[.int .i64 t', .int .i64 l'] 23)).alloc (.cells #[.int .i64 0, .int .i64 0] 23)).heap[w.heap.size + 1]? = some (.cells #[.int .i64 t', .int .i64 l'] 23 (0, 0)) := blk_alloc (blk_at _ (by simp)) _
  have a3 : (((w.alloc (.cells #[.int .i64 t, .int .i64 l] 23)).alloc (.cells #[.int .i64 t', .int .i64 l'] 23)).alloc (.cells #[.int .i64 0, .int .i64 0] 23)).heap[w.heap.size + 1 + 1]? = some (.cells #[.int .i64 0, .int .i64 0] 23 (0, 0)) := blk_at _ (by simp)
  generalize ((w.alloc (.cells #[.int .i64 t, .int .i64 l] 23)).alloc (.cells #[.int .i64 t', .int .i64 l'] 23)).alloc (.cells #[.int .i64 0, .int .i64 0] 23) = W0 at *
  refine (with_nadd_calls _ t l t' l' _ h0 h1 h2 h3 h0' h1' h2' h3' (fun ok ok' v1 A1 n1 c1 v1' A1' n1' c1' v2 A2 n2 c2 v2' A2' n2' c2' w g g' => radd_calls v1 A1 n1 c1 v1' A1' n1' c1' _ v2 A2 n2 c2 v2' A2' n2' c2' _ w g g' 64 (num_sz ok).1 (num_sz ok').1 (by omega))).mono ?_
  rintro e w1 ⟨he, hB1⟩
  rw [hT.out, hL.out, hE.out] at he
  unfold NumR at he
  subst he
  replace a3 := blk_below a3 hB1
  replace B0 := bl_then B0 hB1
  clear hB1
  obtain ⟨z1, z2, z3, z4⟩ := bx2 a3
  go_wp2
  refine bodyPost_ret (results_cell_tmp_row rfl _ _ (w.heap.size + 1 + 1) 23 #[.int .i64 oT, .int .i64 oL] (0, 0) _ _ rfl (by exact blk_set2 a3 _ _) Tryd.underlying23 rfl (by kernel_rfl) rfl) rfl ?_
  exact ⟨rfl, bl_set (bl_set B0 (by show w.heap.size ≤ w.heap.size + 1 + 1; omega) _) (by show w.heap.size ≤ w.heap.size + 1 + 1; omega) _⟩

set_option maxHeartbeats 8000000 in
set_option maxRecDepth 100000 in
theorem with_nsub_calls (q : Rat) (t l t' l' : Int) (w : World) (h0 : -9223372036854775808 ≤ t) (h1 : t ≤ 9223372036854775807) (h2 : -9223372036854775808 ≤ l) (h3 : l ≤ 9223372036854775807) (h0' : -9223372036854775808 ≤ t') (h1' : t' ≤ 9223372036854775807) (h2' : -9223372036854775808 ≤ l') (h3' : l' ≤ 9223372036854775807)
    (hF : OkN t l → OkN t' l' → ∀ (v1 : Int) (A1 : Option Addr) (n1 c1 : Nat) (v1' : Int) (A1' : Option Addr) (n1' c1' : Nat) (v2 : Int) (A2 : Option Addr) (n2 c2 : Nat) (v2' : Int) (A2' : Option Addr) (n2' c2' : Nat) (w : World), RatV w v1 A1 n1 c1 v1' A1' n1' c1' (Rat.divInt t l) → RatV w v2 A2 n2 c2 v2' A2' n2' c2' (Rat.divInt t' l') →
      Calls Tryd.prog 51 #[.agg #[.int .i64 v1, .slice A1 n1 c1, .int .i64 v1', .slice A1' n1' c1'], .agg #[.int .i64 v2, .slice A2 n2 c2, .int .i64 v2', .slice A2' n2' c2']] w fun e w' => RatR e w' q ∧ Below w.heap.size w w') :
    Calls Tryd.prog 27 #[.agg #[.int .i64 t, .int .i64 l], .agg #[.int .i64 t', .int .i64 l'], .func (.func 51) #[] #[]] w fun e w' => NumR e (rT (OkN t l ∧ OkN t' l') q) (rL (OkN t l ∧ OkN t' l') q) (rE (OkN t l ∧ OkN t' l') q) ∧ Below w.heap.size w w' := by
  by_cases hv : OkN t l
  · by_cases hv' : OkN t' l'
    · have e := And.intro hv hv'
      unfold rT rL rE
      rw [if_pos e, if_pos e, if_pos e]
      replace hF := Lib.hid (hF hv hv')
      replace hv := Lib.hid hv
      replace hv' := Lib.hid hv'
      clear e
      generalize hT : outT q = oT
      generalize hL : outL q = oL
      generalize hE : outE q = oE
      replace hT := Lib.hid hT
      replace hL := Lib.hid hL
      replace hE := Lib.hid hE
      go_enter Tryd.func27, Tryd.ntmps27
      go_wp2_with fail
      have B0 := bl_alloc (bl_alloc (bl_alloc (Below.refl w.heap.size w) (.cells #[.int .i64 t, .int .i64 l] 23)) (.cells #[.int .i64 t', .int .i64 l'] 23)) (.cells #[.int .i64 0, .int .i64 0] 23)
      have a1 : (((w.alloc (.cells #[.int .i64 t, .int .i64 l] 23)).alloc (.cells #[.int .i64 t', .int .i64 l'] 23)).alloc (.cells #[.int .i64 0, .int .i64 0] 23)).heap[w.heap.size]? = some (.cells #[.int .i64 t, .int .i64 l] 23 (0, 0)) := blk_alloc (blk_alloc (blk_at _ rfl) _) _
      have a2 : (((w.alloc (.cells #[.int .i64 t, .int .i64 l] 23)).alloc (.cells #[.int .i64 t', .int .i64 l'] 23)).alloc (.cells #[.int .i64 0, .int .i64 0] 23)).heap[w.heap.size + 1]? = some (.cells #[.int .i64 t', .int .i64 l'] 23 (0, 0)) := blk_alloc (blk_at _ (by simp)) _
      have a3 : (((w.alloc (.cells #[.int .i64 t, .int .i64 l] 23)).alloc (.cells #[.int .i64 t', .int .i64 l'] 23)).alloc (.cells #[.int .i64 0, .int .i64 0] 23)).heap[w.heap.size + 1 + 1]? = some (.cells #[.int .i64 0, .int .i64 0] 23 (0, 0)) := blk_at _ (by simp)
      generalize ((w.alloc (.cells #[.int .i64 t, .int .i64 l] 23)).alloc (.cells #[.int .i64 t', .int .i64 l'] 23)).alloc (.cells #[.int .i64 0, .int .i64 0] 23) = W0 at *
      refine (valid_calls t l _ h0 h1 h2 h3).mono ?_
      rintro e w1 ⟨rfl, hB1⟩
      rw [decide_eq_true hv.out]
      replace a1 := blk_below a1 hB1
      replace a2 := blk_below a2 hB1
      replace a3 := blk_below a3 hB1
      replace B0 := bl_then B0 hB1
      clear hB1
      obtain ⟨q1, q2, q3, q4⟩ := bx2 a2
      go_wp2_with fail
      refine (valid_calls t' l' _ h0' h1' h2' h3').mono ?_
      rintro e w2 ⟨rfl, hB2⟩
      rw [decide_eq_true hv'.out]
      replace a1 := blk_below a1 hB2
      replace a2 := blk_below a2 hB2
      replace a3 := blk_below a3 hB2
      replace B0 := bl_then B0 hB2
      clear hB2
      clear q1 q2 q3 q4
      obtain ⟨p1, p2, p3, p4⟩ := bx2 a1
      obtain ⟨q1, q2, q3, q4⟩ := bx2 a2
      go_wp2_with fail
      go_region_held3 (fun W => W.cell? ⟨w.heap.size, 0, none⟩ = some (Value.int .i64 t) ∧ W.cell? ⟨w.heap.size, 1, none⟩ = some (Value.int .i64 l) ∧ W.cell? ⟨w.heap.size + 1, 0, none⟩ = some (Value.int .i64 t') ∧ W.cell? ⟨w.heap.size + 1, 1, none⟩ = some (Value.int .i64 l')) (first | with_reducible exact keep4 hB4 (by assumption) | with_reducible exact keep4 hB3 (by assumption) | with_reducible exact keep4 hB2 (by assumption) | with_reducible exact keep4 hB1 (by assumption) | exact ⟨p1, p2, q1, q2⟩ | with_reducible exact keep4_set2' (by assumption) (by omega) (by omega) | go_keep) (first | (have _hh := HB_3; go_at_call 20; refine (out_calls v3 A3 n3 c3 v3' A3' n3' c3' _ _ g3_3).mono ?_; rintro e w4 ⟨he4, hB4⟩; unfold NumR at he4; rw [hT.out, hL.out, hE.out] at he4; subst he4; have aR_4 := blk_below aR_3 hB4; have HB_4 := bl_then HB_3 hB4; obtain ⟨z1, z2, z3, z4⟩ := bx2 aR_4) | (have _hh := HB_2; go_at_call 51; refine (hF.out v1 A1 n1 c1 v1' A1' n1' c1' v2 A2 n2 c2 v2' A2' n2' c2' _ g1_2 g2_2).mono ?_; rintro e w3 ⟨⟨v3, A3, n3, c3, v3', A3', n3', c3', rfl, g3_3⟩, hB3⟩; have aR_3 := blk_below aR_2 hB3; have HB_3 := bl_then HB_2 hB3) | (have _hh := HB_1; go_at_call_of 29 (Value.agg #[.int .i64 t', .int .i64 l']); refine (rat_calls t' l' _ h0' h1' h2' h3' (by have := hv'.out.1; omega)).mono ?_; rintro e w2 ⟨⟨v2, A2, n2, c2, v2', A2', n2', c2', rfl, g2_2⟩, hB2⟩; have g1_2 := g1_1.below hB2; have aR_2 := blk_below aR_1 hB2; have HB_2 := bl_then HB_1 hB2) | (go_at_call_of 29 (Value.agg #[.int .i64 t, .int .i64 l]); refine (rat_calls t l _ h0 h1 h2 h3 (by have := hv.out.1; omega)).mono ?_; rintro e w1 ⟨⟨v1, A1, n1, c1, v1', A1', n1', c1', rfl, g1_1⟩, hB1⟩; have aR_1 := (by first | exact blk_below a3 hB1 | exact blk_below (blk_drew a3) hB1); have HB_1 := (by first | exact bl_then B0 hB1 | exact bl_then (bl_drew B0) hB1)) | fail)
      all_goals
        go_wp2
        refine bodyPost_ret (results_cell_tmp_row rfl _ _ (w.heap.size + 1 + 1) 23 #[.int .i64 oT, .int .i64 oL] (0, 0) _ _ rfl (by exact blk_set2 aR_4 _ _) Tryd.underlying23 rfl (by kernel_rfl) rfl) rfl ?_
        exact ⟨rfl, bl_set (bl_set HB_4 (by show w.heap.size ≤ w.heap.size + 1 + 1; omega) _) (by show w.heap.size ≤ w.heap.size + 1 + 1; omega) _⟩
    · have e : ¬ (OkN t l ∧ OkN t' l') := fun h => hv' h.2
      unfold rT rL rE
      rw [if_neg e, if_neg e, if_neg e]
      replace hv := Lib.hid hv
      replace hv' := Lib.hid hv'
      clear e hF
      go_enter Tryd.func27, Tryd.ntmps27
      go_wp2_with fail
      have B0 := bl_alloc (bl_alloc (bl_alloc (Below.refl w.heap.size w) (.cells #[.int .i64 t, .int .i64 l] 23)) (.cells #[.int .i64 t', .int .i64 l'] 23)) (.cells #[.int .i64 0, .int .i64 0] 23)
      have a1 : (((w.alloc (.cells #[.int .i64 t, .int .i64 l] 23)).alloc (.cells #[.int .i64 t', .int .i64 l'] 23)).alloc (.cells #[.int .i64 0, .int .i64 0] 23)).heap[w.heap.size]? = some (.cells #[.int .i64 t, .int .i64 l] 23 (0, 0)) := blk_alloc (blk_alloc (blk_at _ rfl) _) _
      have a2 : (((w.alloc (.cells #[.int .i64 t, .int .i64 l] 23)).alloc (.cells #[.int .i64 t', .int .i64 l'] 23)).alloc (.cells #[.int .i64 0, .int .i64 0] 23)).heap[w.heap.size + 1]? = some (.cells #[.int .i64 t', .int .i64 l'] 23 (0, 0)) := blk_alloc (blk_at _ (by simp)) _
      have a3 : (((w.alloc (.cells #[.int .i64 t, .int .i64 l] 23)).alloc (.cells #[.int .i64 t', .int .i64 l'] 23)).alloc (.cells #[.int .i64 0, .int .i64 0] 23)).heap[w.heap.size + 1 + 1]? = some (.cells #[.int .i64 0, .int .i64 0] 23 (0, 0)) := blk_at _ (by simp)
      generalize ((w.alloc (.cells #[.int .i64 t, .int .i64 l] 23)).alloc (.cells #[.int .i64 t', .int .i64 l'] 23)).alloc (.cells #[.int .i64 0, .int .i64 0] 23) = W0 at *
      refine (valid_calls t l _ h0 h1 h2 h3).mono ?_
      rintro e w1 ⟨rfl, hB1⟩
      rw [decide_eq_true hv.out]
      replace a1 := blk_below a1 hB1
      replace a2 := blk_below a2 hB1
      replace a3 := blk_below a3 hB1
      replace B0 := bl_then B0 hB1
      clear hB1
      obtain ⟨q1, q2, q3, q4⟩ := bx2 a2
      go_wp2_with fail
      refine (valid_calls t' l' _ h0' h1' h2' h3').mono ?_
      rintro e w2 ⟨rfl, hB2⟩
      rw [decide_eq_false hv'.out]
      replace a1 := blk_below a1 hB2
      replace a2 := blk_below a2 hB2
      replace a3 := blk_below a3 hB2
      replace B0 := bl_then B0 hB2
      clear hB2
      clear q1 q2 q3 q4
      obtain ⟨z1, z2, z3, z4⟩ := bx2 a3
      go_wp2
      refine bodyPost_ret (results_cell_tmp_row rfl _ _ (w.heap.size + 1 + 1) 23 #[.int .i64 0, .int .i64 0] (0, 0) _ _ rfl (by first | exact blk_set2 a3 _ _ | exact a3) Tryd.underlying23 rfl (by kernel_rfl) rfl) rfl ?_
      exact ⟨rfl, by first | exact B0 | exact bl_set (bl_set B0 (by show w.heap.size ≤ w.heap.size + 1 + 1; omega) _) (by show w.heap.size ≤ w.heap.size + 1 + 1; omega) _⟩
  · have e : ¬ (OkN t l ∧ OkN t' l') := fun h => hv h.1
    unfold rT rL rE
    rw [if_neg e, if_neg e, if_neg e]
    replace hv := Lib.hid hv
    clear e hF
    go_enter Tryd.func27, Tryd.ntmps27
    go_wp2_with fail
    have B0 := bl_alloc (bl_alloc (bl_alloc (Below.refl w.heap.size w) (.cells #[.int .i64 t, .int .i64 l] 23)) (.cells #[.int .i64 t', .int .i64 l'] 23)) (.cells #[.int .i64 0, .int .i64 0] 23)
    have a1 : (((w.alloc (.cells #[.int .i64 t, .int .i64 l] 23)).alloc (.cells #[.int .i64 t', .int .i64 l'] 23)).alloc (.cells #[.int .i64 0, .int .i64 0] 23)).heap[w.heap.size]? = some (.cells #[.int .i64 t, .int .i64 l] 23 (0, 0)) := blk_alloc (blk_alloc (blk_at _ rfl) _) _
    have a2 : (((w.alloc (.cells #[.int .i64 t, .int .i64 l] 23)).alloc (.cells #[.int .i64 t', .int .i64 l'] 23)).alloc (.cells #[.int .i64 0, .int .i64 0] 23)).heap[w.heap.size + 1]? = some (.cells #[.int .i64 t', .int .i64 l'] 23 (0, 0)) := blk_alloc (blk_at _ (by simp)) _
    have a3 : (((w.alloc (.cells #[.int .i64 t, .int .i64 l] 23)).alloc (.cells #[.int .i64 t', .int .i64 l'] 23)).alloc (.cells #[.int .i64 0, .int .i64 0] 23)).heap[w.heap.size + 1 + 1]? = some (.cells #[.int .i64 0, .int .i64 0] 23 (0, 0)) := blk_at _ (by simp)
    generalize ((w.alloc (.cells #[.int .i64 t, .int .i64 l] 23)).alloc (.cells #[.int .i64 t', .int .i64 l'] 23)).alloc (.cells #[.int .i64 0, .int .i64 0] 23) = W0 at *
    refine (valid_calls t l _ h0 h1 h2 h3).mono ?_
    rintro e w1 ⟨rfl, hB1⟩
    rw [decide_eq_false hv.out]
    replace a1 := blk_below a1 hB1
    replace a2 := blk_below a2 hB1
    replace a3 := blk_below a3 hB1
    replace B0 := bl_then B0 hB1
    clear hB1
    obtain ⟨z1, z2, z3, z4⟩ := bx2 a3
    go_wp2
    refine bodyPost_ret (results_cell_tmp_row rfl _ _ (w.heap.size + 1 + 1) 23 #[.int .i64 0, .int .i64 0] (0, 0) _ _ rfl (by first | exact blk_set2 a3 _ _ | exact a3) Tryd.underlying23 rfl (by kernel_rfl) rfl) rfl ?_
    exact ⟨rfl, by first | exact B0 | exact bl_set (bl_set B0 (by show w.heap.size ≤ w.heap.size + 1 + 1; omega) _) (by show w.heap.size ≤ w.heap.size + 1 + 1; omega) _⟩

end Go.Proofs.YtmeldkceajnobaaDoor
