/- floodmarklaw01: NumField. -/
import Derived.Test.YtijdnlkojflnkaaNum6
set_option linter.unusedVariables false
set_option linter.unusedSimpArgs false
namespace Go.Proofs.Ytijdnlkojflnkaa
open Go.RowKit

/-- Both fit int. -/
def I64 (t l : Int) : Prop := (-9223372036854775808 ≤ t ∧ t ≤ 9223372036854775807) ∧ (-9223372036854775808 ≤ l ∧ l ≤ 9223372036854775807)
theorem rT_congr {b b' : Prop} [Decidable b] [Decidable b'] {q q' : Rat} (h : b ↔ b') (e : q = q') : rT b q = rT b' q' ∧ rL b q = rL b' q' ∧ rE b q = rE b' q' := by
  subst e
  unfold rT rL rE
  by_cases hb : b
  · have hb' := h.1 hb
    simp [hb, hb']
  · have hb' : ¬ b' := fun k => hb (h.2 k)
    simp [hb, hb']
theorem r_i64 (b : Prop) [Decidable b] (q : Rat) : I64 (rT b q) (rL b q) := by
  unfold I64 rT rL
  have h1 := outT_bd q
  have h2 := outL_bd q
  by_cases hb : b
  · rw [if_pos hb, if_pos hb]; omega
  · rw [if_neg hb, if_neg hb]; omega
theorem out_ok {q : Rat} (h : outE q = 0) : OkN (outT q) (outL q) ∧ Rat.divInt (outT q) (outL q) = q := by
  unfold outE outT outL at *
  by_cases hf : Fits q
  · rw [if_pos hf, if_pos hf]
    have := q.den_pos
    exact ⟨⟨by omega, hf.2.2, hf.2.1, hf.1, q.reduced⟩, Rat.num_divInt_den q⟩
  · rw [if_neg hf] at h; omega
theorem r_ok {b : Prop} [Decidable b] {q : Rat} (h : rE b q = 0) : b ∧ OkN (rT b q) (rL b q) ∧ Rat.divInt (rT b q) (rL b q) = q := by
  unfold rE rT rL at *
  by_cases hb : b
  · rw [if_pos hb] at h
    rw [if_pos hb, if_pos hb]
    exact ⟨hb, out_ok h⟩
  · rw [if_neg hb] at h; omega
theorem ok_inj {t l t' l' : Int} (h : OkN t l) (h' : OkN t' l') (e : Rat.divInt t l = Rat.divInt t' l') : t = t' ∧ l = l' := by
  have a := num_sz h
  have b := num_sz h'
  rw [e] at a
  exact ⟨a.2.1.symm.trans b.2.1, a.2.2.symm.trans b.2.2⟩
theorem out_val {t l : Int} (h : OkN t l) : outT (Rat.divInt t l) = t ∧ outL (Rat.divInt t l) = l ∧ outE (Rat.divInt t l) = 0 := by
  have a := num_sz h
  have hf : Fits (Rat.divInt t l) := by
    unfold Fits
    rw [a.2.1, a.2.2]
    exact ⟨h.2.2.2.1, h.2.2.1, h.2.1⟩
  unfold outT outL outE
  rw [if_pos hf, if_pos hf, if_pos hf]
  exact ⟨a.2.1, a.2.2, rfl⟩
theorem r_val {b : Prop} [Decidable b] {t l : Int} {q : Rat} (hb : b) (h : OkN t l) (e : q = Rat.divInt t l) : rT b q = t ∧ rL b q = l ∧ rE b q = 0 := by
  subst e
  unfold rT rL rE
  rw [if_pos hb, if_pos hb, if_pos hb]
  exact out_val h
theorem d_i64 (t l t' l' : Int) : I64 (dT t l t' l') (dL t l t' l') := by
  unfold dT dL
  have := r_i64 (OkN t l ∧ OkN t' l') (Rat.divInt t l / Rat.divInt t' l')
  by_cases h : (OkN t l ∧ OkN t' l') ∧ t' = 0
  · rw [if_pos h, if_pos h]; unfold I64; omega
  · rw [if_neg h, if_neg h]; exact this

/-- Sub takes back what Add gives. -/
theorem f_sub {t1 l1 t2 l2 T L : Int} (h1 : OkN t1 l1) (h2 : OkN t2 l2) (h : OkN T L) (e : Rat.divInt T L = Rat.divInt t1 l1 + Rat.divInt t2 l2) :
    rT (OkN T L ∧ OkN t2 l2) (Rat.divInt T L - Rat.divInt t2 l2) = t1 ∧ rL (OkN T L ∧ OkN t2 l2) (Rat.divInt T L - Rat.divInt t2 l2) = l1 ∧ rE (OkN T L ∧ OkN t2 l2) (Rat.divInt T L - Rat.divInt t2 l2) = 0 :=
  r_val ⟨h, h2⟩ h1 (by rw [e]; grind)
/-- Div takes back what Mul gives. -/
theorem f_div {t1 l1 t2 l2 T L : Int} (h1 : OkN t1 l1) (h2 : OkN t2 l2) (h : OkN T L) (e : Rat.divInt T L = Rat.divInt t1 l1 * Rat.divInt t2 l2) (ht : t2 ≠ 0) :
    dT T L t2 l2 = t1 ∧ dL T L t2 l2 = l1 ∧ dE T L t2 l2 = 0 := by
  have n : ¬ ((OkN T L ∧ OkN t2 l2) ∧ t2 = 0) := fun k => ht k.2
  unfold dT dL dE
  rw [if_neg n, if_neg n, if_neg n]
  have hz : Rat.divInt t2 l2 ≠ 0 := by
    intro k
    have := (num_sz h2).2.1
    rw [k] at this
    exact ht this.symm
  exact r_val ⟨h, h2⟩ h1 (by rw [e, Rat.mul_div_cancel hz])
theorem f_div0 {t2 l2 T L : Int} (h2 : OkN t2 l2) (h : OkN T L) (ht : t2 = 0) : dE T L t2 l2 = 5 := by
  unfold dE
  rw [if_pos ⟨⟨h, h2⟩, ht⟩]

set_option maxHeartbeats 40000000 in
set_option maxRecDepth 100000 in
theorem field_walk (t1 l1 t2 l2 t3 l3 : Int) (w : World) (I1 : Hid (I64 t1 l1)) (I2 : Hid (I64 t2 l2)) (I3 : Hid (I64 t3 l3)) :
    Calls Try.prog 5 #[.agg #[.int .i64 t1, .int .i64 l1], .agg #[.int .i64 t2, .int .i64 l2], .agg #[.int .i64 t3, .int .i64 l3]] w fun e w' => e = .returned (.bool true) ∧ Below w.heap.size w w' := by
  go_enter Try.func5, Try.ntmps5
  go_upto_region 1 with (fail)
  have B0 := bl_alloc (bl_alloc (bl_alloc (Below.refl w.heap.size w) (.cells #[.int .i64 t1, .int .i64 l1] 23)) (.cells #[.int .i64 t2, .int .i64 l2] 23)) (.cells #[.int .i64 t3, .int .i64 l3] 23)
  have x_a : (((w.alloc (.cells #[.int .i64 t1, .int .i64 l1] 23)).alloc (.cells #[.int .i64 t2, .int .i64 l2] 23)).alloc (.cells #[.int .i64 t3, .int .i64 l3] 23)).heap[w.heap.size]? = some (.cells #[.int .i64 t1, .int .i64 l1] 23 (0, 0)) := blk_alloc (blk_alloc (blk_at _ rfl) _) _
  have x_b : (((w.alloc (.cells #[.int .i64 t1, .int .i64 l1] 23)).alloc (.cells #[.int .i64 t2, .int .i64 l2] 23)).alloc (.cells #[.int .i64 t3, .int .i64 l3] 23)).heap[w.heap.size + 1]? = some (.cells #[.int .i64 t2, .int .i64 l2] 23 (0, 0)) := blk_alloc (blk_at _ (by simp)) _
  have x_c : (((w.alloc (.cells #[.int .i64 t1, .int .i64 l1] 23)).alloc (.cells #[.int .i64 t2, .int .i64 l2] 23)).alloc (.cells #[.int .i64 t3, .int .i64 l3] 23)).heap[w.heap.size + 1 + 1]? = some (.cells #[.int .i64 t3, .int .i64 l3] 23 (0, 0)) := blk_at _ (by simp)
  have hmx : w.heap.size + 2 < (((w.alloc (.cells #[.int .i64 t1, .int .i64 l1] 23)).alloc (.cells #[.int .i64 t2, .int .i64 l2] 23)).alloc (.cells #[.int .i64 t3, .int .i64 l3] 23)).heap.size := by simp; try omega
  generalize ((w.alloc (.cells #[.int .i64 t1, .int .i64 l1] 23)).alloc (.cells #[.int .i64 t2, .int .i64 l2] 23)).alloc (.cells #[.int .i64 t3, .int .i64 l3] 23) = W0 at *
  obtain ⟨u11, u12, u13, u14⟩ := bx2 x_a
  obtain ⟨u21, u22, u23, u24⟩ := bx2 x_b
  go_wp2_with fail
  refine (nadd_calls t1 l1 t2 l2 _ I1.out.1.1 I1.out.1.2 I1.out.2.1 I1.out.2.2 I2.out.1.1 I2.out.1.2 I2.out.2.1 I2.out.2.2).mono ?_
  rintro e wk1 ⟨he, hB1⟩
  clear u11 u12 u13 u14 u21 u22 u23 u24
  have i1 := Lib.hid (r_i64 (OkN t1 l1 ∧ OkN t2 l2) (Rat.divInt t1 l1 + Rat.divInt t2 l2))
  have ok1 := Lib.hid (fun h => @r_ok (OkN t1 l1 ∧ OkN t2 l2) _ (Rat.divInt t1 l1 + Rat.divInt t2 l2) h)
  generalize hgT : rT (OkN t1 l1 ∧ OkN t2 l2) (Rat.divInt t1 l1 + Rat.divInt t2 l2) = pT at *
  replace hgT : Hid (rT (OkN t1 l1 ∧ OkN t2 l2) (Rat.divInt t1 l1 + Rat.divInt t2 l2) = pT) := Lib.hid hgT
  generalize hgL : rL (OkN t1 l1 ∧ OkN t2 l2) (Rat.divInt t1 l1 + Rat.divInt t2 l2) = pL at *
  replace hgL : Hid (rL (OkN t1 l1 ∧ OkN t2 l2) (Rat.divInt t1 l1 + Rat.divInt t2 l2) = pL) := Lib.hid hgL
  generalize hgE : rE (OkN t1 l1 ∧ OkN t2 l2) (Rat.divInt t1 l1 + Rat.divInt t2 l2) = pE at *
  replace hgE : Hid (rE (OkN t1 l1 ∧ OkN t2 l2) (Rat.divInt t1 l1 + Rat.divInt t2 l2) = pE) := Lib.hid hgE
  have HG1T := hgT
  clear hgT
  have HG1L := hgL
  clear hgL
  have HG1E := hgE
  clear hgE
  unfold NumR at he
  subst he
  replace x_a := blk_alloc (blk_below x_a hB1) (.cells #[.int .i64 pT, .int .i64 pL] 23)
  replace x_b := blk_alloc (blk_below x_b hB1) (.cells #[.int .i64 pT, .int .i64 pL] 23)
  replace x_c := blk_alloc (blk_below x_c hB1) (.cells #[.int .i64 pT, .int .i64 pL] 23)
  replace B0 := bl_alloc (bl_then B0 hB1) (.cells #[.int .i64 pT, .int .i64 pL] 23)
  have x_p : (wk1.alloc (.cells #[.int .i64 pT, .int .i64 pL] 23)).heap[wk1.heap.size]? = some (.cells #[.int .i64 pT, .int .i64 pL] 23 (0, 0)) := blk_at _ rfl
  have lt1 : w.heap.size + 2 < wk1.heap.size := by
    have h1 := hB1.size
    have h2 := hmx
    omega
  clear hB1 hmx
  go_upto_region 2 with (fail)
  generalize hgs : wk1.heap.size = g1 at *
  generalize hgw : wk1.alloc (.cells #[.int .i64 pT, .int .i64 pL] 23) = wn1 at *
  have hmx : g1 < wn1.heap.size := by rw [← hgw, World.size_alloc, hgs]; omega
  clear hgs hgw
  obtain ⟨u11, u12, u13, u14⟩ := bx2 x_b
  obtain ⟨u21, u22, u23, u24⟩ := bx2 x_a
  go_wp2_with fail
  refine (nadd_calls t2 l2 t1 l1 _ I2.out.1.1 I2.out.1.2 I2.out.2.1 I2.out.2.2 I1.out.1.1 I1.out.1.2 I1.out.2.1 I1.out.2.2).mono ?_
  rintro e wk2 ⟨he, hB2⟩
  clear u11 u12 u13 u14 u21 u22 u23 u24
  have VL := show rT (OkN t2 l2 ∧ OkN t1 l1) (Rat.divInt t2 l2 + Rat.divInt t1 l1) = pT ∧ rL (OkN t2 l2 ∧ OkN t1 l1) (Rat.divInt t2 l2 + Rat.divInt t1 l1) = pL ∧ rE (OkN t2 l2 ∧ OkN t1 l1) (Rat.divInt t2 l2 + Rat.divInt t1 l1) = pE from by rw [← HG1T.out, ← HG1L.out, ← HG1E.out]; exact rT_congr And.comm (Rat.add_comm _ _)
  rw [VL.1, VL.2.1, VL.2.2] at he
  clear VL
  unfold NumR at he
  subst he
  replace x_a := blk_alloc (blk_below x_a hB2) (.cells #[.int .i64 pT, .int .i64 pL] 23)
  replace x_b := blk_alloc (blk_below x_b hB2) (.cells #[.int .i64 pT, .int .i64 pL] 23)
  replace x_c := blk_alloc (blk_below x_c hB2) (.cells #[.int .i64 pT, .int .i64 pL] 23)
  replace x_p := blk_alloc (blk_below x_p hB2) (.cells #[.int .i64 pT, .int .i64 pL] 23)
  replace B0 := bl_alloc (bl_then B0 hB2) (.cells #[.int .i64 pT, .int .i64 pL] 23)
  have x_q : (wk2.alloc (.cells #[.int .i64 pT, .int .i64 pL] 23)).heap[wk2.heap.size]? = some (.cells #[.int .i64 pT, .int .i64 pL] 23 (0, 0)) := blk_at _ rfl
  have lt2 : g1 < wk2.heap.size := by
    have h1 := hB2.size
    have h2 := hmx
    omega
  clear hB2 hmx
  go_upto_region 3 with (fail)
  generalize hgs : wk2.heap.size = g2 at *
  generalize hgw : wk2.alloc (.cells #[.int .i64 pT, .int .i64 pL] 23) = wn2 at *
  have hmx : g2 < wn2.heap.size := by rw [← hgw, World.size_alloc, hgs]; omega
  clear hgs hgw
  obtain ⟨u11, u12, u13, u14⟩ := bx2 x_a
  obtain ⟨u21, u22, u23, u24⟩ := bx2 x_b
  go_wp2_with fail
  refine (nmul_calls t1 l1 t2 l2 _ I1.out.1.1 I1.out.1.2 I1.out.2.1 I1.out.2.2 I2.out.1.1 I2.out.1.2 I2.out.2.1 I2.out.2.2).mono ?_
  rintro e wk3 ⟨he, hB3⟩
  clear u11 u12 u13 u14 u21 u22 u23 u24
  have i3 := Lib.hid (r_i64 (OkN t1 l1 ∧ OkN t2 l2) (Rat.divInt t1 l1 * Rat.divInt t2 l2))
  have ok3 := Lib.hid (fun h => @r_ok (OkN t1 l1 ∧ OkN t2 l2) _ (Rat.divInt t1 l1 * Rat.divInt t2 l2) h)
  generalize hgT : rT (OkN t1 l1 ∧ OkN t2 l2) (Rat.divInt t1 l1 * Rat.divInt t2 l2) = rT1 at *
  replace hgT : Hid (rT (OkN t1 l1 ∧ OkN t2 l2) (Rat.divInt t1 l1 * Rat.divInt t2 l2) = rT1) := Lib.hid hgT
  generalize hgL : rL (OkN t1 l1 ∧ OkN t2 l2) (Rat.divInt t1 l1 * Rat.divInt t2 l2) = rL1 at *
  replace hgL : Hid (rL (OkN t1 l1 ∧ OkN t2 l2) (Rat.divInt t1 l1 * Rat.divInt t2 l2) = rL1) := Lib.hid hgL
  generalize hgE : rE (OkN t1 l1 ∧ OkN t2 l2) (Rat.divInt t1 l1 * Rat.divInt t2 l2) = rE1 at *
  replace hgE : Hid (rE (OkN t1 l1 ∧ OkN t2 l2) (Rat.divInt t1 l1 * Rat.divInt t2 l2) = rE1) := Lib.hid hgE
  have HG3T := hgT
  clear hgT
  have HG3L := hgL
  clear hgL
  have HG3E := hgE
  clear hgE
  unfold NumR at he
  subst he
  replace x_a := blk_alloc (blk_below x_a hB3) (.cells #[.int .i64 rT1, .int .i64 rL1] 23)
  replace x_b := blk_alloc (blk_below x_b hB3) (.cells #[.int .i64 rT1, .int .i64 rL1] 23)
  replace x_c := blk_alloc (blk_below x_c hB3) (.cells #[.int .i64 rT1, .int .i64 rL1] 23)
  replace x_p := blk_alloc (blk_below x_p hB3) (.cells #[.int .i64 rT1, .int .i64 rL1] 23)
  replace x_q := blk_alloc (blk_below x_q hB3) (.cells #[.int .i64 rT1, .int .i64 rL1] 23)
  replace B0 := bl_alloc (bl_then B0 hB3) (.cells #[.int .i64 rT1, .int .i64 rL1] 23)
  have x_r : (wk3.alloc (.cells #[.int .i64 rT1, .int .i64 rL1] 23)).heap[wk3.heap.size]? = some (.cells #[.int .i64 rT1, .int .i64 rL1] 23 (0, 0)) := blk_at _ rfl
  have lt3 : g2 < wk3.heap.size := by
    have h1 := hB3.size
    have h2 := hmx
    omega
  clear hB3 hmx
  go_upto_region 4 with (fail)
  generalize hgs : wk3.heap.size = g3 at *
  generalize hgw : wk3.alloc (.cells #[.int .i64 rT1, .int .i64 rL1] 23) = wn3 at *
  have hmx : g3 < wn3.heap.size := by rw [← hgw, World.size_alloc, hgs]; omega
  clear hgs hgw
  obtain ⟨u11, u12, u13, u14⟩ := bx2 x_b
  obtain ⟨u21, u22, u23, u24⟩ := bx2 x_a
  go_wp2_with fail
  refine (nmul_calls t2 l2 t1 l1 _ I2.out.1.1 I2.out.1.2 I2.out.2.1 I2.out.2.2 I1.out.1.1 I1.out.1.2 I1.out.2.1 I1.out.2.2).mono ?_
  rintro e wk4 ⟨he, hB4⟩
  clear u11 u12 u13 u14 u21 u22 u23 u24
  have VL := show rT (OkN t2 l2 ∧ OkN t1 l1) (Rat.divInt t2 l2 * Rat.divInt t1 l1) = rT1 ∧ rL (OkN t2 l2 ∧ OkN t1 l1) (Rat.divInt t2 l2 * Rat.divInt t1 l1) = rL1 ∧ rE (OkN t2 l2 ∧ OkN t1 l1) (Rat.divInt t2 l2 * Rat.divInt t1 l1) = rE1 from by rw [← HG3T.out, ← HG3L.out, ← HG3E.out]; exact rT_congr And.comm (Rat.mul_comm _ _)
  rw [VL.1, VL.2.1, VL.2.2] at he
  clear VL
  unfold NumR at he
  subst he
  replace x_a := blk_alloc (blk_below x_a hB4) (.cells #[.int .i64 rT1, .int .i64 rL1] 23)
  replace x_b := blk_alloc (blk_below x_b hB4) (.cells #[.int .i64 rT1, .int .i64 rL1] 23)
  replace x_c := blk_alloc (blk_below x_c hB4) (.cells #[.int .i64 rT1, .int .i64 rL1] 23)
  replace x_p := blk_alloc (blk_below x_p hB4) (.cells #[.int .i64 rT1, .int .i64 rL1] 23)
  replace x_q := blk_alloc (blk_below x_q hB4) (.cells #[.int .i64 rT1, .int .i64 rL1] 23)
  replace x_r := blk_alloc (blk_below x_r hB4) (.cells #[.int .i64 rT1, .int .i64 rL1] 23)
  replace B0 := bl_alloc (bl_then B0 hB4) (.cells #[.int .i64 rT1, .int .i64 rL1] 23)
  have x_s : (wk4.alloc (.cells #[.int .i64 rT1, .int .i64 rL1] 23)).heap[wk4.heap.size]? = some (.cells #[.int .i64 rT1, .int .i64 rL1] 23 (0, 0)) := blk_at _ rfl
  have lt4 : g3 < wk4.heap.size := by
    have h1 := hB4.size
    have h2 := hmx
    omega
  clear hB4 hmx
  go_upto_region 5 with (fail)
  generalize hgs : wk4.heap.size = g4 at *
  generalize hgw : wk4.alloc (.cells #[.int .i64 rT1, .int .i64 rL1] 23) = wn4 at *
  have hmx : g4 < wn4.heap.size := by rw [← hgw, World.size_alloc, hgs]; omega
  clear hgs hgw
  obtain ⟨u11, u12, u13, u14⟩ := bx2 x_p
  obtain ⟨u21, u22, u23, u24⟩ := bx2 x_q
  obtain ⟨u31, u32, u33, u34⟩ := bx2 x_r
  obtain ⟨u41, u42, u43, u44⟩ := bx2 x_s
  go_upto_region 7 with (fail)
  clear u11 u12 u13 u14 u21 u22 u23 u24 u31 u32 u33 u34 u41 u42 u43 u44
  by_cases he0 : pE = 0
  · have heb : (pE == 0) = true := by simp [he0]
    have okp := Lib.hid (ok1.out he0)
    replace he0 := Lib.hid he0
    go_upto_region 8 with (fail)
    clear heb
    obtain ⟨u11, u12, u13, u14⟩ := bx2 x_p
    obtain ⟨u21, u22, u23, u24⟩ := bx2 x_b
    go_wp2_with fail
    refine (nsub_calls pT pL t2 l2 _ i1.out.1.1 i1.out.1.2 i1.out.2.1 i1.out.2.2 I2.out.1.1 I2.out.1.2 I2.out.2.1 I2.out.2.2).mono ?_
    rintro e wk5 ⟨he, hB5⟩
    clear u11 u12 u13 u14 u21 u22 u23 u24
    have VL := f_sub okp.out.1.1 okp.out.1.2 okp.out.2.1 okp.out.2.2
    rw [VL.1, VL.2.1, VL.2.2] at he
    clear VL
    unfold NumR at he
    subst he
    replace x_a := blk_alloc (blk_below x_a hB5) (.cells #[.int .i64 t1, .int .i64 l1] 23)
    replace x_b := blk_alloc (blk_below x_b hB5) (.cells #[.int .i64 t1, .int .i64 l1] 23)
    replace x_c := blk_alloc (blk_below x_c hB5) (.cells #[.int .i64 t1, .int .i64 l1] 23)
    replace x_p := blk_alloc (blk_below x_p hB5) (.cells #[.int .i64 t1, .int .i64 l1] 23)
    replace x_q := blk_alloc (blk_below x_q hB5) (.cells #[.int .i64 t1, .int .i64 l1] 23)
    replace x_r := blk_alloc (blk_below x_r hB5) (.cells #[.int .i64 t1, .int .i64 l1] 23)
    replace x_s := blk_alloc (blk_below x_s hB5) (.cells #[.int .i64 t1, .int .i64 l1] 23)
    replace B0 := bl_alloc (bl_then B0 hB5) (.cells #[.int .i64 t1, .int .i64 l1] 23)
    have x_d : (wk5.alloc (.cells #[.int .i64 t1, .int .i64 l1] 23)).heap[wk5.heap.size]? = some (.cells #[.int .i64 t1, .int .i64 l1] 23 (0, 0)) := blk_at _ rfl
    have lt5 : g4 < wk5.heap.size := by
      have h1 := hB5.size
      have h2 := hmx
      omega
    clear hB5 hmx
    go_upto_region 9 with (fail)
    generalize hgs : wk5.heap.size = g5 at *
    generalize hgw : wk5.alloc (.cells #[.int .i64 t1, .int .i64 l1] 23) = wn5 at *
    have hmx : g5 < wn5.heap.size := by rw [← hgw, World.size_alloc, hgs]; omega
    clear hgs hgw
    obtain ⟨u11, u12, u13, u14⟩ := bx2 x_d
    obtain ⟨u21, u22, u23, u24⟩ := bx2 x_a
    go_upto_region 11 with (fail)
    clear u11 u12 u13 u14 u21 u22 u23 u24
    obtain ⟨u11, u12, u13, u14⟩ := bx2 x_p
    obtain ⟨u21, u22, u23, u24⟩ := bx2 x_c
    go_wp2_with fail
    refine (nadd_calls pT pL t3 l3 _ i1.out.1.1 i1.out.1.2 i1.out.2.1 i1.out.2.2 I3.out.1.1 I3.out.1.2 I3.out.2.1 I3.out.2.2).mono ?_
    rintro e wk6 ⟨he, hB6⟩
    clear u11 u12 u13 u14 u21 u22 u23 u24
    have i6 := Lib.hid (r_i64 (OkN pT pL ∧ OkN t3 l3) (Rat.divInt pT pL + Rat.divInt t3 l3))
    have ok6 := Lib.hid (fun h => @r_ok (OkN pT pL ∧ OkN t3 l3) _ (Rat.divInt pT pL + Rat.divInt t3 l3) h)
    generalize hgT : rT (OkN pT pL ∧ OkN t3 l3) (Rat.divInt pT pL + Rat.divInt t3 l3) = jT at *
    replace hgT : Hid (rT (OkN pT pL ∧ OkN t3 l3) (Rat.divInt pT pL + Rat.divInt t3 l3) = jT) := Lib.hid hgT
    generalize hgL : rL (OkN pT pL ∧ OkN t3 l3) (Rat.divInt pT pL + Rat.divInt t3 l3) = jL at *
    replace hgL : Hid (rL (OkN pT pL ∧ OkN t3 l3) (Rat.divInt pT pL + Rat.divInt t3 l3) = jL) := Lib.hid hgL
    generalize hgE : rE (OkN pT pL ∧ OkN t3 l3) (Rat.divInt pT pL + Rat.divInt t3 l3) = jE at *
    replace hgE : Hid (rE (OkN pT pL ∧ OkN t3 l3) (Rat.divInt pT pL + Rat.divInt t3 l3) = jE) := Lib.hid hgE
    have HG6T := hgT
    clear hgT
    have HG6L := hgL
    clear hgL
    have HG6E := hgE
    clear hgE
    unfold NumR at he
    subst he
    replace x_a := blk_alloc (blk_below x_a hB6) (.cells #[.int .i64 jT, .int .i64 jL] 23)
    replace x_b := blk_alloc (blk_below x_b hB6) (.cells #[.int .i64 jT, .int .i64 jL] 23)
    replace x_c := blk_alloc (blk_below x_c hB6) (.cells #[.int .i64 jT, .int .i64 jL] 23)
    replace x_p := blk_alloc (blk_below x_p hB6) (.cells #[.int .i64 jT, .int .i64 jL] 23)
    replace x_q := blk_alloc (blk_below x_q hB6) (.cells #[.int .i64 jT, .int .i64 jL] 23)
    replace x_r := blk_alloc (blk_below x_r hB6) (.cells #[.int .i64 jT, .int .i64 jL] 23)
    replace x_s := blk_alloc (blk_below x_s hB6) (.cells #[.int .i64 jT, .int .i64 jL] 23)
    replace x_d := blk_alloc (blk_below x_d hB6) (.cells #[.int .i64 jT, .int .i64 jL] 23)
    replace B0 := bl_alloc (bl_then B0 hB6) (.cells #[.int .i64 jT, .int .i64 jL] 23)
    have x_x0 : (wk6.alloc (.cells #[.int .i64 jT, .int .i64 jL] 23)).heap[wk6.heap.size]? = some (.cells #[.int .i64 jT, .int .i64 jL] 23 (0, 0)) := blk_at _ rfl
    have lt6 : g5 < wk6.heap.size := by
      have h1 := hB6.size
      have h2 := hmx
      omega
    clear hB6 hmx
    go_upto_region 12 with (fail)
    generalize hgs : wk6.heap.size = g6 at *
    generalize hgw : wk6.alloc (.cells #[.int .i64 jT, .int .i64 jL] 23) = wn6 at *
    have hmx : g6 < wn6.heap.size := by rw [← hgw, World.size_alloc, hgs]; omega
    clear hgs hgw
    obtain ⟨u11, u12, u13, u14⟩ := bx2 x_b
    obtain ⟨u21, u22, u23, u24⟩ := bx2 x_c
    go_wp2_with fail
    refine (nadd_calls t2 l2 t3 l3 _ I2.out.1.1 I2.out.1.2 I2.out.2.1 I2.out.2.2 I3.out.1.1 I3.out.1.2 I3.out.2.1 I3.out.2.2).mono ?_
    rintro e wk7 ⟨he, hB7⟩
    clear u11 u12 u13 u14 u21 u22 u23 u24
    have i7 := Lib.hid (r_i64 (OkN t2 l2 ∧ OkN t3 l3) (Rat.divInt t2 l2 + Rat.divInt t3 l3))
    have ok7 := Lib.hid (fun h => @r_ok (OkN t2 l2 ∧ OkN t3 l3) _ (Rat.divInt t2 l2 + Rat.divInt t3 l3) h)
    generalize hgT : rT (OkN t2 l2 ∧ OkN t3 l3) (Rat.divInt t2 l2 + Rat.divInt t3 l3) = kT at *
    replace hgT : Hid (rT (OkN t2 l2 ∧ OkN t3 l3) (Rat.divInt t2 l2 + Rat.divInt t3 l3) = kT) := Lib.hid hgT
    generalize hgL : rL (OkN t2 l2 ∧ OkN t3 l3) (Rat.divInt t2 l2 + Rat.divInt t3 l3) = kL at *
    replace hgL : Hid (rL (OkN t2 l2 ∧ OkN t3 l3) (Rat.divInt t2 l2 + Rat.divInt t3 l3) = kL) := Lib.hid hgL
    generalize hgE : rE (OkN t2 l2 ∧ OkN t3 l3) (Rat.divInt t2 l2 + Rat.divInt t3 l3) = kE at *
    replace hgE : Hid (rE (OkN t2 l2 ∧ OkN t3 l3) (Rat.divInt t2 l2 + Rat.divInt t3 l3) = kE) := Lib.hid hgE
    have HG7T := hgT
    clear hgT
    have HG7L := hgL
    clear hgL
    have HG7E := hgE
    clear hgE
    unfold NumR at he
    subst he
    replace x_a := blk_alloc (blk_below x_a hB7) (.cells #[.int .i64 kT, .int .i64 kL] 23)
    replace x_b := blk_alloc (blk_below x_b hB7) (.cells #[.int .i64 kT, .int .i64 kL] 23)
    replace x_c := blk_alloc (blk_below x_c hB7) (.cells #[.int .i64 kT, .int .i64 kL] 23)
    replace x_p := blk_alloc (blk_below x_p hB7) (.cells #[.int .i64 kT, .int .i64 kL] 23)
    replace x_q := blk_alloc (blk_below x_q hB7) (.cells #[.int .i64 kT, .int .i64 kL] 23)
    replace x_r := blk_alloc (blk_below x_r hB7) (.cells #[.int .i64 kT, .int .i64 kL] 23)
    replace x_s := blk_alloc (blk_below x_s hB7) (.cells #[.int .i64 kT, .int .i64 kL] 23)
    replace x_d := blk_alloc (blk_below x_d hB7) (.cells #[.int .i64 kT, .int .i64 kL] 23)
    replace x_x0 := blk_alloc (blk_below x_x0 hB7) (.cells #[.int .i64 kT, .int .i64 kL] 23)
    replace B0 := bl_alloc (bl_then B0 hB7) (.cells #[.int .i64 kT, .int .i64 kL] 23)
    have x_y0 : (wk7.alloc (.cells #[.int .i64 kT, .int .i64 kL] 23)).heap[wk7.heap.size]? = some (.cells #[.int .i64 kT, .int .i64 kL] 23 (0, 0)) := blk_at _ rfl
    have lt7 : g6 < wk7.heap.size := by
      have h1 := hB7.size
      have h2 := hmx
      omega
    clear hB7 hmx
    go_upto_region 13 with (fail)
    generalize hgs : wk7.heap.size = g7 at *
    generalize hgw : wk7.alloc (.cells #[.int .i64 kT, .int .i64 kL] 23) = wn7 at *
    have hmx : g7 < wn7.heap.size := by rw [← hgw, World.size_alloc, hgs]; omega
    clear hgs hgw
    obtain ⟨u11, u12, u13, u14⟩ := bx2 x_a
    obtain ⟨u21, u22, u23, u24⟩ := bx2 x_y0
    go_wp2_with fail
    refine (nadd_calls t1 l1 kT kL _ I1.out.1.1 I1.out.1.2 I1.out.2.1 I1.out.2.2 i7.out.1.1 i7.out.1.2 i7.out.2.1 i7.out.2.2).mono ?_
    rintro e wk8 ⟨he, hB8⟩
    clear u11 u12 u13 u14 u21 u22 u23 u24
    have i8 := Lib.hid (r_i64 (OkN t1 l1 ∧ OkN kT kL) (Rat.divInt t1 l1 + Rat.divInt kT kL))
    have ok8 := Lib.hid (fun h => @r_ok (OkN t1 l1 ∧ OkN kT kL) _ (Rat.divInt t1 l1 + Rat.divInt kT kL) h)
    generalize hgT : rT (OkN t1 l1 ∧ OkN kT kL) (Rat.divInt t1 l1 + Rat.divInt kT kL) = mT1 at *
    replace hgT : Hid (rT (OkN t1 l1 ∧ OkN kT kL) (Rat.divInt t1 l1 + Rat.divInt kT kL) = mT1) := Lib.hid hgT
    generalize hgL : rL (OkN t1 l1 ∧ OkN kT kL) (Rat.divInt t1 l1 + Rat.divInt kT kL) = mL1 at *
    replace hgL : Hid (rL (OkN t1 l1 ∧ OkN kT kL) (Rat.divInt t1 l1 + Rat.divInt kT kL) = mL1) := Lib.hid hgL
    generalize hgE : rE (OkN t1 l1 ∧ OkN kT kL) (Rat.divInt t1 l1 + Rat.divInt kT kL) = mE1 at *
    replace hgE : Hid (rE (OkN t1 l1 ∧ OkN kT kL) (Rat.divInt t1 l1 + Rat.divInt kT kL) = mE1) := Lib.hid hgE
    have HG8T := hgT
    clear hgT
    have HG8L := hgL
    clear hgL
    have HG8E := hgE
    clear hgE
    unfold NumR at he
    subst he
    replace x_a := blk_alloc (blk_below x_a hB8) (.cells #[.int .i64 mT1, .int .i64 mL1] 23)
    replace x_b := blk_alloc (blk_below x_b hB8) (.cells #[.int .i64 mT1, .int .i64 mL1] 23)
    replace x_c := blk_alloc (blk_below x_c hB8) (.cells #[.int .i64 mT1, .int .i64 mL1] 23)
    replace x_p := blk_alloc (blk_below x_p hB8) (.cells #[.int .i64 mT1, .int .i64 mL1] 23)
    replace x_q := blk_alloc (blk_below x_q hB8) (.cells #[.int .i64 mT1, .int .i64 mL1] 23)
    replace x_r := blk_alloc (blk_below x_r hB8) (.cells #[.int .i64 mT1, .int .i64 mL1] 23)
    replace x_s := blk_alloc (blk_below x_s hB8) (.cells #[.int .i64 mT1, .int .i64 mL1] 23)
    replace x_d := blk_alloc (blk_below x_d hB8) (.cells #[.int .i64 mT1, .int .i64 mL1] 23)
    replace x_x0 := blk_alloc (blk_below x_x0 hB8) (.cells #[.int .i64 mT1, .int .i64 mL1] 23)
    replace x_y0 := blk_alloc (blk_below x_y0 hB8) (.cells #[.int .i64 mT1, .int .i64 mL1] 23)
    replace B0 := bl_alloc (bl_then B0 hB8) (.cells #[.int .i64 mT1, .int .i64 mL1] 23)
    have x_z0 : (wk8.alloc (.cells #[.int .i64 mT1, .int .i64 mL1] 23)).heap[wk8.heap.size]? = some (.cells #[.int .i64 mT1, .int .i64 mL1] 23 (0, 0)) := blk_at _ rfl
    have lt8 : g7 < wk8.heap.size := by
      have h1 := hB8.size
      have h2 := hmx
      omega
    clear hB8 hmx
    go_upto_region 14 with (fail)
    generalize hgs : wk8.heap.size = g8 at *
    generalize hgw : wk8.alloc (.cells #[.int .i64 mT1, .int .i64 mL1] 23) = wn8 at *
    have hmx : g8 < wn8.heap.size := by rw [← hgw, World.size_alloc, hgs]; omega
    clear hgs hgw
    go_cut [122] (fun x wc => x = .bool false ∧ wc = wn8)
    case first =>
      by_cases c1 : jE = 0
      · have n1 : (jE == 0) = true := by simp [c1]
        by_cases c2 : kE = 0
        · have n2 : (kE == 0) = true := by simp [c2]
          by_cases c3 : mE1 = 0
          · have n3 : (mE1 == 0) = true := by simp [c3]
            have EQ := ok_inj (ok6.out c1).2.1 (ok8.out c3).2.1 (by rw [(ok6.out c1).2.2, (ok8.out c3).2.2, (ok7.out c2).2.2, okp.out.2.2, Rat.add_assoc])
            obtain ⟨e1, e2⟩ := EQ
            replace c1 := Lib.hid c1
            replace c2 := Lib.hid c2
            replace c3 := Lib.hid c3
            rw [e1, e2] at x_x0
            replace e1 := Lib.hid e1
            replace e2 := Lib.hid e2
            obtain ⟨u11, u12, u13, u14⟩ := bx2 x_x0
            obtain ⟨u21, u22, u23, u24⟩ := bx2 x_z0
            go_wp2
            go_meet
            case rel => exact ⟨rfl, rfl⟩
          · have n3 : (mE1 == 0) = false := by simp [c3]
            replace c3 : Hid (¬ mE1 = 0) := Lib.hid c3
            replace c1 := Lib.hid c1
            replace c2 := Lib.hid c2
            go_wp2
            go_meet
            case rel => exact ⟨rfl, rfl⟩
        · have n2 : (kE == 0) = false := by simp [c2]
          replace c2 : Hid (¬ kE = 0) := Lib.hid c2
          replace c1 := Lib.hid c1
          go_wp2
          go_meet
          case rel => exact ⟨rfl, rfl⟩
      · have n1 : (jE == 0) = false := by simp [c1]
        replace c1 : Hid (¬ jE = 0) := Lib.hid c1
        go_wp2
        go_meet
        case rel => exact ⟨rfl, rfl⟩
    case rest =>
      obtain ⟨rfl, rfl⟩ := hcut
      go_upto_region 16 with (fail)
      obtain ⟨u11, u12, u13, u14⟩ := bx2 x_p
      obtain ⟨u21, u22, u23, u24⟩ := bx2 x_c
      go_wp2_with fail
      refine (nmul_calls pT pL t3 l3 _ i1.out.1.1 i1.out.1.2 i1.out.2.1 i1.out.2.2 I3.out.1.1 I3.out.1.2 I3.out.2.1 I3.out.2.2).mono ?_
      rintro e wk9 ⟨he, hB9⟩
      clear u11 u12 u13 u14 u21 u22 u23 u24
      have i9 := Lib.hid (r_i64 (OkN pT pL ∧ OkN t3 l3) (Rat.divInt pT pL * Rat.divInt t3 l3))
      have ok9 := Lib.hid (fun h => @r_ok (OkN pT pL ∧ OkN t3 l3) _ (Rat.divInt pT pL * Rat.divInt t3 l3) h)
      generalize hgT : rT (OkN pT pL ∧ OkN t3 l3) (Rat.divInt pT pL * Rat.divInt t3 l3) = jT2 at *
      replace hgT : Hid (rT (OkN pT pL ∧ OkN t3 l3) (Rat.divInt pT pL * Rat.divInt t3 l3) = jT2) := Lib.hid hgT
      generalize hgL : rL (OkN pT pL ∧ OkN t3 l3) (Rat.divInt pT pL * Rat.divInt t3 l3) = jL2 at *
      replace hgL : Hid (rL (OkN pT pL ∧ OkN t3 l3) (Rat.divInt pT pL * Rat.divInt t3 l3) = jL2) := Lib.hid hgL
      generalize hgE : rE (OkN pT pL ∧ OkN t3 l3) (Rat.divInt pT pL * Rat.divInt t3 l3) = jE2 at *
      replace hgE : Hid (rE (OkN pT pL ∧ OkN t3 l3) (Rat.divInt pT pL * Rat.divInt t3 l3) = jE2) := Lib.hid hgE
      have HG9T := hgT
      clear hgT
      have HG9L := hgL
      clear hgL
      have HG9E := hgE
      clear hgE
      unfold NumR at he
      subst he
      replace x_a := blk_below x_a hB9
      replace x_b := blk_below x_b hB9
      replace x_c := blk_below x_c hB9
      replace x_p := blk_below x_p hB9
      replace x_q := blk_below x_q hB9
      replace x_r := blk_below x_r hB9
      replace x_s := blk_below x_s hB9
      replace x_d := blk_below x_d hB9
      replace x_x0 := blk_below x_x0 hB9
      replace x_y0 := blk_below x_y0 hB9
      replace x_z0 := blk_below x_z0 hB9
      replace B0 := bl_then B0 hB9
      have hmx' : g8 < wk9.heap.size := by have h1 := hB9.size; omega
      clear hB9 hmx
      obtain ⟨z1, z2, z3, z4⟩ := bx2 x_x0
      go_upto_region 17 with (fail)
      clear z1 z2 z3 z4
      replace x_a := blk_far (g := g6) (i := 1) (v := .int .i64 jL2) (blk_far (g := g6) (i := 0) (v := .int .i64 jT2) x_a (by omega)) (by omega)
      replace x_b := blk_far (g := g6) (i := 1) (v := .int .i64 jL2) (blk_far (g := g6) (i := 0) (v := .int .i64 jT2) x_b (by omega)) (by omega)
      replace x_c := blk_far (g := g6) (i := 1) (v := .int .i64 jL2) (blk_far (g := g6) (i := 0) (v := .int .i64 jT2) x_c (by omega)) (by omega)
      replace x_p := blk_far (g := g6) (i := 1) (v := .int .i64 jL2) (blk_far (g := g6) (i := 0) (v := .int .i64 jT2) x_p (by omega)) (by omega)
      replace x_q := blk_far (g := g6) (i := 1) (v := .int .i64 jL2) (blk_far (g := g6) (i := 0) (v := .int .i64 jT2) x_q (by omega)) (by omega)
      replace x_r := blk_far (g := g6) (i := 1) (v := .int .i64 jL2) (blk_far (g := g6) (i := 0) (v := .int .i64 jT2) x_r (by omega)) (by omega)
      replace x_s := blk_far (g := g6) (i := 1) (v := .int .i64 jL2) (blk_far (g := g6) (i := 0) (v := .int .i64 jT2) x_s (by omega)) (by omega)
      replace x_d := blk_far (g := g6) (i := 1) (v := .int .i64 jL2) (blk_far (g := g6) (i := 0) (v := .int .i64 jT2) x_d (by omega)) (by omega)
      replace x_y0 := blk_far (g := g6) (i := 1) (v := .int .i64 jL2) (blk_far (g := g6) (i := 0) (v := .int .i64 jT2) x_y0 (by omega)) (by omega)
      replace x_z0 := blk_far (g := g6) (i := 1) (v := .int .i64 jL2) (blk_far (g := g6) (i := 0) (v := .int .i64 jT2) x_z0 (by omega)) (by omega)
      replace x_x0 := blk_set2 x_x0 (.int .i64 jT2) (.int .i64 jL2)
      replace B0 := bl_set (bl_set B0 (show w.heap.size ≤ g6 by omega) (.int .i64 jT2) (p := ⟨g6, 0, none⟩)) (show w.heap.size ≤ g6 by omega) (.int .i64 jL2) (p := ⟨g6, 1, none⟩)
      generalize hgw : (wk9.setCell ⟨g6, 0, none⟩ (.int .i64 jT2)).setCell ⟨g6, 1, none⟩ (.int .i64 jL2) = wn9 at *
      have hmx : g8 < wn9.heap.size := by rw [← hgw, World.size_setCell, World.size_setCell]; exact hmx'
      clear hgw hmx'
      obtain ⟨u11, u12, u13, u14⟩ := bx2 x_a
      obtain ⟨u21, u22, u23, u24⟩ := bx2 x_c
      go_wp2_with fail
      refine (nmul_calls t1 l1 t3 l3 _ I1.out.1.1 I1.out.1.2 I1.out.2.1 I1.out.2.2 I3.out.1.1 I3.out.1.2 I3.out.2.1 I3.out.2.2).mono ?_
      rintro e wk10 ⟨he, hB10⟩
      clear u11 u12 u13 u14 u21 u22 u23 u24
      have i10 := Lib.hid (r_i64 (OkN t1 l1 ∧ OkN t3 l3) (Rat.divInt t1 l1 * Rat.divInt t3 l3))
      have ok10 := Lib.hid (fun h => @r_ok (OkN t1 l1 ∧ OkN t3 l3) _ (Rat.divInt t1 l1 * Rat.divInt t3 l3) h)
      generalize hgT : rT (OkN t1 l1 ∧ OkN t3 l3) (Rat.divInt t1 l1 * Rat.divInt t3 l3) = kT2 at *
      replace hgT : Hid (rT (OkN t1 l1 ∧ OkN t3 l3) (Rat.divInt t1 l1 * Rat.divInt t3 l3) = kT2) := Lib.hid hgT
      generalize hgL : rL (OkN t1 l1 ∧ OkN t3 l3) (Rat.divInt t1 l1 * Rat.divInt t3 l3) = kL2 at *
      replace hgL : Hid (rL (OkN t1 l1 ∧ OkN t3 l3) (Rat.divInt t1 l1 * Rat.divInt t3 l3) = kL2) := Lib.hid hgL
      generalize hgE : rE (OkN t1 l1 ∧ OkN t3 l3) (Rat.divInt t1 l1 * Rat.divInt t3 l3) = kE2 at *
      replace hgE : Hid (rE (OkN t1 l1 ∧ OkN t3 l3) (Rat.divInt t1 l1 * Rat.divInt t3 l3) = kE2) := Lib.hid hgE
      have HG10T := hgT
      clear hgT
      have HG10L := hgL
      clear hgL
      have HG10E := hgE
      clear hgE
      unfold NumR at he
      subst he
      replace x_a := blk_below x_a hB10
      replace x_b := blk_below x_b hB10
      replace x_c := blk_below x_c hB10
      replace x_p := blk_below x_p hB10
      replace x_q := blk_below x_q hB10
      replace x_r := blk_below x_r hB10
      replace x_s := blk_below x_s hB10
      replace x_d := blk_below x_d hB10
      replace x_x0 := blk_below x_x0 hB10
      replace x_y0 := blk_below x_y0 hB10
      replace x_z0 := blk_below x_z0 hB10
      replace B0 := bl_then B0 hB10
      have hmx' : g8 < wk10.heap.size := by have h1 := hB10.size; omega
      clear hB10 hmx
      obtain ⟨z1, z2, z3, z4⟩ := bx2 x_y0
      go_upto_region 18 with (fail)
      clear z1 z2 z3 z4
      replace x_a := blk_far (g := g7) (i := 1) (v := .int .i64 kL2) (blk_far (g := g7) (i := 0) (v := .int .i64 kT2) x_a (by omega)) (by omega)
      replace x_b := blk_far (g := g7) (i := 1) (v := .int .i64 kL2) (blk_far (g := g7) (i := 0) (v := .int .i64 kT2) x_b (by omega)) (by omega)
      replace x_c := blk_far (g := g7) (i := 1) (v := .int .i64 kL2) (blk_far (g := g7) (i := 0) (v := .int .i64 kT2) x_c (by omega)) (by omega)
      replace x_p := blk_far (g := g7) (i := 1) (v := .int .i64 kL2) (blk_far (g := g7) (i := 0) (v := .int .i64 kT2) x_p (by omega)) (by omega)
      replace x_q := blk_far (g := g7) (i := 1) (v := .int .i64 kL2) (blk_far (g := g7) (i := 0) (v := .int .i64 kT2) x_q (by omega)) (by omega)
      replace x_r := blk_far (g := g7) (i := 1) (v := .int .i64 kL2) (blk_far (g := g7) (i := 0) (v := .int .i64 kT2) x_r (by omega)) (by omega)
      replace x_s := blk_far (g := g7) (i := 1) (v := .int .i64 kL2) (blk_far (g := g7) (i := 0) (v := .int .i64 kT2) x_s (by omega)) (by omega)
      replace x_d := blk_far (g := g7) (i := 1) (v := .int .i64 kL2) (blk_far (g := g7) (i := 0) (v := .int .i64 kT2) x_d (by omega)) (by omega)
      replace x_x0 := blk_far (g := g7) (i := 1) (v := .int .i64 kL2) (blk_far (g := g7) (i := 0) (v := .int .i64 kT2) x_x0 (by omega)) (by omega)
      replace x_z0 := blk_far (g := g7) (i := 1) (v := .int .i64 kL2) (blk_far (g := g7) (i := 0) (v := .int .i64 kT2) x_z0 (by omega)) (by omega)
      replace x_y0 := blk_set2 x_y0 (.int .i64 kT2) (.int .i64 kL2)
      replace B0 := bl_set (bl_set B0 (show w.heap.size ≤ g7 by omega) (.int .i64 kT2) (p := ⟨g7, 0, none⟩)) (show w.heap.size ≤ g7 by omega) (.int .i64 kL2) (p := ⟨g7, 1, none⟩)
      generalize hgw : (wk10.setCell ⟨g7, 0, none⟩ (.int .i64 kT2)).setCell ⟨g7, 1, none⟩ (.int .i64 kL2) = wn10 at *
      have hmx : g8 < wn10.heap.size := by rw [← hgw, World.size_setCell, World.size_setCell]; exact hmx'
      clear hgw hmx'
      obtain ⟨u11, u12, u13, u14⟩ := bx2 x_b
      obtain ⟨u21, u22, u23, u24⟩ := bx2 x_c
      go_wp2_with fail
      refine (nmul_calls t2 l2 t3 l3 _ I2.out.1.1 I2.out.1.2 I2.out.2.1 I2.out.2.2 I3.out.1.1 I3.out.1.2 I3.out.2.1 I3.out.2.2).mono ?_
      rintro e wk11 ⟨he, hB11⟩
      clear u11 u12 u13 u14 u21 u22 u23 u24
      have i11 := Lib.hid (r_i64 (OkN t2 l2 ∧ OkN t3 l3) (Rat.divInt t2 l2 * Rat.divInt t3 l3))
      have ok11 := Lib.hid (fun h => @r_ok (OkN t2 l2 ∧ OkN t3 l3) _ (Rat.divInt t2 l2 * Rat.divInt t3 l3) h)
      generalize hgT : rT (OkN t2 l2 ∧ OkN t3 l3) (Rat.divInt t2 l2 * Rat.divInt t3 l3) = mT2 at *
      replace hgT : Hid (rT (OkN t2 l2 ∧ OkN t3 l3) (Rat.divInt t2 l2 * Rat.divInt t3 l3) = mT2) := Lib.hid hgT
      generalize hgL : rL (OkN t2 l2 ∧ OkN t3 l3) (Rat.divInt t2 l2 * Rat.divInt t3 l3) = mL2 at *
      replace hgL : Hid (rL (OkN t2 l2 ∧ OkN t3 l3) (Rat.divInt t2 l2 * Rat.divInt t3 l3) = mL2) := Lib.hid hgL
      generalize hgE : rE (OkN t2 l2 ∧ OkN t3 l3) (Rat.divInt t2 l2 * Rat.divInt t3 l3) = mE2 at *
      replace hgE : Hid (rE (OkN t2 l2 ∧ OkN t3 l3) (Rat.divInt t2 l2 * Rat.divInt t3 l3) = mE2) := Lib.hid hgE
      have HG11T := hgT
      clear hgT
      have HG11L := hgL
      clear hgL
      have HG11E := hgE
      clear hgE
      unfold NumR at he
      subst he
      replace x_a := blk_below x_a hB11
      replace x_b := blk_below x_b hB11
      replace x_c := blk_below x_c hB11
      replace x_p := blk_below x_p hB11
      replace x_q := blk_below x_q hB11
      replace x_r := blk_below x_r hB11
      replace x_s := blk_below x_s hB11
      replace x_d := blk_below x_d hB11
      replace x_x0 := blk_below x_x0 hB11
      replace x_y0 := blk_below x_y0 hB11
      replace x_z0 := blk_below x_z0 hB11
      replace B0 := bl_then B0 hB11
      have hmx' : g8 < wk11.heap.size := by have h1 := hB11.size; omega
      clear hB11 hmx
      obtain ⟨z1, z2, z3, z4⟩ := bx2 x_z0
      go_upto_region 19 with (fail)
      clear z1 z2 z3 z4
      replace x_a := blk_far (g := g8) (i := 1) (v := .int .i64 mL2) (blk_far (g := g8) (i := 0) (v := .int .i64 mT2) x_a (by omega)) (by omega)
      replace x_b := blk_far (g := g8) (i := 1) (v := .int .i64 mL2) (blk_far (g := g8) (i := 0) (v := .int .i64 mT2) x_b (by omega)) (by omega)
      replace x_c := blk_far (g := g8) (i := 1) (v := .int .i64 mL2) (blk_far (g := g8) (i := 0) (v := .int .i64 mT2) x_c (by omega)) (by omega)
      replace x_p := blk_far (g := g8) (i := 1) (v := .int .i64 mL2) (blk_far (g := g8) (i := 0) (v := .int .i64 mT2) x_p (by omega)) (by omega)
      replace x_q := blk_far (g := g8) (i := 1) (v := .int .i64 mL2) (blk_far (g := g8) (i := 0) (v := .int .i64 mT2) x_q (by omega)) (by omega)
      replace x_r := blk_far (g := g8) (i := 1) (v := .int .i64 mL2) (blk_far (g := g8) (i := 0) (v := .int .i64 mT2) x_r (by omega)) (by omega)
      replace x_s := blk_far (g := g8) (i := 1) (v := .int .i64 mL2) (blk_far (g := g8) (i := 0) (v := .int .i64 mT2) x_s (by omega)) (by omega)
      replace x_d := blk_far (g := g8) (i := 1) (v := .int .i64 mL2) (blk_far (g := g8) (i := 0) (v := .int .i64 mT2) x_d (by omega)) (by omega)
      replace x_x0 := blk_far (g := g8) (i := 1) (v := .int .i64 mL2) (blk_far (g := g8) (i := 0) (v := .int .i64 mT2) x_x0 (by omega)) (by omega)
      replace x_y0 := blk_far (g := g8) (i := 1) (v := .int .i64 mL2) (blk_far (g := g8) (i := 0) (v := .int .i64 mT2) x_y0 (by omega)) (by omega)
      replace x_z0 := blk_set2 x_z0 (.int .i64 mT2) (.int .i64 mL2)
      replace B0 := bl_set (bl_set B0 (show w.heap.size ≤ g8 by omega) (.int .i64 mT2) (p := ⟨g8, 0, none⟩)) (show w.heap.size ≤ g8 by omega) (.int .i64 mL2) (p := ⟨g8, 1, none⟩)
      generalize hgw : (wk11.setCell ⟨g8, 0, none⟩ (.int .i64 mT2)).setCell ⟨g8, 1, none⟩ (.int .i64 mL2) = wn11 at *
      have hmx : g8 < wn11.heap.size := by rw [← hgw, World.size_setCell, World.size_setCell]; exact hmx'
      clear hgw hmx'
      obtain ⟨u11, u12, u13, u14⟩ := bx2 x_y0
      obtain ⟨u21, u22, u23, u24⟩ := bx2 x_z0
      go_wp2_with fail
      refine (nadd_calls kT2 kL2 mT2 mL2 _ i10.out.1.1 i10.out.1.2 i10.out.2.1 i10.out.2.2 i11.out.1.1 i11.out.1.2 i11.out.2.1 i11.out.2.2).mono ?_
      rintro e wk12 ⟨he, hB12⟩
      clear u11 u12 u13 u14 u21 u22 u23 u24
      have i12 := Lib.hid (r_i64 (OkN kT2 kL2 ∧ OkN mT2 mL2) (Rat.divInt kT2 kL2 + Rat.divInt mT2 mL2))
      have ok12 := Lib.hid (fun h => @r_ok (OkN kT2 kL2 ∧ OkN mT2 mL2) _ (Rat.divInt kT2 kL2 + Rat.divInt mT2 mL2) h)
      generalize hgT : rT (OkN kT2 kL2 ∧ OkN mT2 mL2) (Rat.divInt kT2 kL2 + Rat.divInt mT2 mL2) = vT at *
      replace hgT : Hid (rT (OkN kT2 kL2 ∧ OkN mT2 mL2) (Rat.divInt kT2 kL2 + Rat.divInt mT2 mL2) = vT) := Lib.hid hgT
      generalize hgL : rL (OkN kT2 kL2 ∧ OkN mT2 mL2) (Rat.divInt kT2 kL2 + Rat.divInt mT2 mL2) = vL at *
      replace hgL : Hid (rL (OkN kT2 kL2 ∧ OkN mT2 mL2) (Rat.divInt kT2 kL2 + Rat.divInt mT2 mL2) = vL) := Lib.hid hgL
      generalize hgE : rE (OkN kT2 kL2 ∧ OkN mT2 mL2) (Rat.divInt kT2 kL2 + Rat.divInt mT2 mL2) = vE at *
      replace hgE : Hid (rE (OkN kT2 kL2 ∧ OkN mT2 mL2) (Rat.divInt kT2 kL2 + Rat.divInt mT2 mL2) = vE) := Lib.hid hgE
      have HG12T := hgT
      clear hgT
      have HG12L := hgL
      clear hgL
      have HG12E := hgE
      clear hgE
      unfold NumR at he
      subst he
      replace x_a := blk_alloc (blk_below x_a hB12) (.cells #[.int .i64 vT, .int .i64 vL] 23)
      replace x_b := blk_alloc (blk_below x_b hB12) (.cells #[.int .i64 vT, .int .i64 vL] 23)
      replace x_c := blk_alloc (blk_below x_c hB12) (.cells #[.int .i64 vT, .int .i64 vL] 23)
      replace x_p := blk_alloc (blk_below x_p hB12) (.cells #[.int .i64 vT, .int .i64 vL] 23)
      replace x_q := blk_alloc (blk_below x_q hB12) (.cells #[.int .i64 vT, .int .i64 vL] 23)
      replace x_r := blk_alloc (blk_below x_r hB12) (.cells #[.int .i64 vT, .int .i64 vL] 23)
      replace x_s := blk_alloc (blk_below x_s hB12) (.cells #[.int .i64 vT, .int .i64 vL] 23)
      replace x_d := blk_alloc (blk_below x_d hB12) (.cells #[.int .i64 vT, .int .i64 vL] 23)
      replace x_x0 := blk_alloc (blk_below x_x0 hB12) (.cells #[.int .i64 vT, .int .i64 vL] 23)
      replace x_y0 := blk_alloc (blk_below x_y0 hB12) (.cells #[.int .i64 vT, .int .i64 vL] 23)
      replace x_z0 := blk_alloc (blk_below x_z0 hB12) (.cells #[.int .i64 vT, .int .i64 vL] 23)
      replace B0 := bl_alloc (bl_then B0 hB12) (.cells #[.int .i64 vT, .int .i64 vL] 23)
      have x_v0 : (wk12.alloc (.cells #[.int .i64 vT, .int .i64 vL] 23)).heap[wk12.heap.size]? = some (.cells #[.int .i64 vT, .int .i64 vL] 23 (0, 0)) := blk_at _ rfl
      have lt12 : g8 < wk12.heap.size := by
        have h1 := hB12.size
        have h2 := hmx
        omega
      clear hB12 hmx
      go_upto_region 20 with (fail)
      generalize hgs : wk12.heap.size = g12 at *
      generalize hgw : wk12.alloc (.cells #[.int .i64 vT, .int .i64 vL] 23) = wn12 at *
      have hmx : g12 < wn12.heap.size := by rw [← hgw, World.size_alloc, hgs]; omega
      clear hgs hgw
      go_cut [165] (fun x wc => x = .bool false ∧ wc = wn12)
      case first =>
        by_cases c1 : jE2 = 0
        · have n1 : (jE2 == 0) = true := by simp [c1]
          by_cases c2 : kE2 = 0
          · have n2 : (kE2 == 0) = true := by simp [c2]
            by_cases c3 : mE2 = 0
            · have n3 : (mE2 == 0) = true := by simp [c3]
              by_cases c4 : vE = 0
              · have n4 : (vE == 0) = true := by simp [c4]
                have EQ := ok_inj (ok9.out c1).2.1 (ok12.out c4).2.1 (by rw [(ok9.out c1).2.2, (ok12.out c4).2.2, (ok10.out c2).2.2, (ok11.out c3).2.2, okp.out.2.2, Rat.add_mul])
                obtain ⟨e1, e2⟩ := EQ
                replace c1 := Lib.hid c1
                replace c2 := Lib.hid c2
                replace c3 := Lib.hid c3
                replace c4 := Lib.hid c4
                rw [e1, e2] at x_x0
                replace e1 := Lib.hid e1
                replace e2 := Lib.hid e2
                obtain ⟨u11, u12, u13, u14⟩ := bx2 x_x0
                obtain ⟨u21, u22, u23, u24⟩ := bx2 x_v0
                go_wp2
                go_meet
                case rel => exact ⟨rfl, rfl⟩
              · have n4 : (vE == 0) = false := by simp [c4]
                replace c4 : Hid (¬ vE = 0) := Lib.hid c4
                replace c1 := Lib.hid c1
                replace c2 := Lib.hid c2
                replace c3 := Lib.hid c3
                go_wp2
                go_meet
                case rel => exact ⟨rfl, rfl⟩
            · have n3 : (mE2 == 0) = false := by simp [c3]
              replace c3 : Hid (¬ mE2 = 0) := Lib.hid c3
              replace c1 := Lib.hid c1
              replace c2 := Lib.hid c2
              go_wp2
              go_meet
              case rel => exact ⟨rfl, rfl⟩
          · have n2 : (kE2 == 0) = false := by simp [c2]
            replace c2 : Hid (¬ kE2 = 0) := Lib.hid c2
            replace c1 := Lib.hid c1
            go_wp2
            go_meet
            case rel => exact ⟨rfl, rfl⟩
        · have n1 : (jE2 == 0) = false := by simp [c1]
          replace c1 : Hid (¬ jE2 = 0) := Lib.hid c1
          go_wp2
          go_meet
          case rel => exact ⟨rfl, rfl⟩
      case rest =>
        obtain ⟨rfl, rfl⟩ := hcut
        go_upto_region 22 with (fail)
        by_cases hg : rE1 = 0
        · have hgb : (rE1 != 0) = false := by simp [hg]
          have okr := Lib.hid (ok3.out hg)
          replace hg := Lib.hid hg
          go_upto_region 24 with (fail)
          by_cases hz : t2 = 0
          · have dz := Lib.hid (f_div0 okr.out.1.2 okr.out.2.1 hz)
            replace hz := Lib.hid hz
            obtain ⟨u11, u12, u13, u14⟩ := bx2 x_r
            obtain ⟨u21, u22, u23, u24⟩ := bx2 x_b
            go_wp2_with fail
            refine (ndiv_calls rT1 rL1 t2 l2 _ i3.out.1.1 i3.out.1.2 i3.out.2.1 i3.out.2.2 I2.out.1.1 I2.out.1.2 I2.out.2.1 I2.out.2.2).mono ?_
            rintro e wk13 ⟨he, hB13⟩
            clear u11 u12 u13 u14 u21 u22 u23 u24
            have i13 := Lib.hid (d_i64 rT1 rL1 t2 l2)
            generalize hgT : dT rT1 rL1 t2 l2 = dT1 at *
            replace hgT : Hid (dT rT1 rL1 t2 l2 = dT1) := Lib.hid hgT
            generalize hgL : dL rT1 rL1 t2 l2 = dL1 at *
            replace hgL : Hid (dL rT1 rL1 t2 l2 = dL1) := Lib.hid hgL
            generalize hgE : dE rT1 rL1 t2 l2 = dE1 at *
            replace hgE : Hid (dE rT1 rL1 t2 l2 = dE1) := Lib.hid hgE
            have HG13T := hgT
            clear hgT
            have HG13L := hgL
            clear hgL
            have HG13E := hgE
            clear hgE
            unfold NumR at he
            subst he
            replace x_a := blk_alloc (blk_below x_a hB13) (.cells #[.int .i64 dT1, .int .i64 dL1] 23)
            replace x_b := blk_alloc (blk_below x_b hB13) (.cells #[.int .i64 dT1, .int .i64 dL1] 23)
            replace x_c := blk_alloc (blk_below x_c hB13) (.cells #[.int .i64 dT1, .int .i64 dL1] 23)
            replace x_p := blk_alloc (blk_below x_p hB13) (.cells #[.int .i64 dT1, .int .i64 dL1] 23)
            replace x_q := blk_alloc (blk_below x_q hB13) (.cells #[.int .i64 dT1, .int .i64 dL1] 23)
            replace x_r := blk_alloc (blk_below x_r hB13) (.cells #[.int .i64 dT1, .int .i64 dL1] 23)
            replace x_s := blk_alloc (blk_below x_s hB13) (.cells #[.int .i64 dT1, .int .i64 dL1] 23)
            replace x_d := blk_alloc (blk_below x_d hB13) (.cells #[.int .i64 dT1, .int .i64 dL1] 23)
            replace x_x0 := blk_alloc (blk_below x_x0 hB13) (.cells #[.int .i64 dT1, .int .i64 dL1] 23)
            replace x_y0 := blk_alloc (blk_below x_y0 hB13) (.cells #[.int .i64 dT1, .int .i64 dL1] 23)
            replace x_z0 := blk_alloc (blk_below x_z0 hB13) (.cells #[.int .i64 dT1, .int .i64 dL1] 23)
            replace x_v0 := blk_alloc (blk_below x_v0 hB13) (.cells #[.int .i64 dT1, .int .i64 dL1] 23)
            replace B0 := bl_alloc (bl_then B0 hB13) (.cells #[.int .i64 dT1, .int .i64 dL1] 23)
            have x_x : (wk13.alloc (.cells #[.int .i64 dT1, .int .i64 dL1] 23)).heap[wk13.heap.size]? = some (.cells #[.int .i64 dT1, .int .i64 dL1] 23 (0, 0)) := blk_at _ rfl
            have lt13 : g12 < wk13.heap.size := by
              have h1 := hB13.size
              have h2 := hmx
              omega
            clear hB13 hmx
            go_upto_region 25 with (fail)
            generalize hgs : wk13.heap.size = g13 at *
            generalize hgw : wk13.alloc (.cells #[.int .i64 dT1, .int .i64 dL1] 23) = wn13 at *
            have hmx : g13 < wn13.heap.size := by rw [← hgw, World.size_alloc, hgs]; omega
            clear hgs hgw
            have dzb : (dE1 == 0) = false := by rw [dz.out]; rfl
            obtain ⟨u11, u12, u13, u14⟩ := bx2 x_x
            obtain ⟨u21, u22, u23, u24⟩ := bx2 x_a
            go_upto_region 27 with (fail)
            clear u11 u12 u13 u14 u21 u22 u23 u24
            clear dzb
            obtain ⟨u11, u12, u13, u14⟩ := bx2 x_r
            obtain ⟨u21, u22, u23, u24⟩ := bx2 x_c
            go_wp2_with fail
            refine (nmul_calls rT1 rL1 t3 l3 _ i3.out.1.1 i3.out.1.2 i3.out.2.1 i3.out.2.2 I3.out.1.1 I3.out.1.2 I3.out.2.1 I3.out.2.2).mono ?_
            rintro e wk14 ⟨he, hB14⟩
            clear u11 u12 u13 u14 u21 u22 u23 u24
            have i14 := Lib.hid (r_i64 (OkN rT1 rL1 ∧ OkN t3 l3) (Rat.divInt rT1 rL1 * Rat.divInt t3 l3))
            have ok14 := Lib.hid (fun h => @r_ok (OkN rT1 rL1 ∧ OkN t3 l3) _ (Rat.divInt rT1 rL1 * Rat.divInt t3 l3) h)
            generalize hgT : rT (OkN rT1 rL1 ∧ OkN t3 l3) (Rat.divInt rT1 rL1 * Rat.divInt t3 l3) = eT at *
            replace hgT : Hid (rT (OkN rT1 rL1 ∧ OkN t3 l3) (Rat.divInt rT1 rL1 * Rat.divInt t3 l3) = eT) := Lib.hid hgT
            generalize hgL : rL (OkN rT1 rL1 ∧ OkN t3 l3) (Rat.divInt rT1 rL1 * Rat.divInt t3 l3) = eL at *
            replace hgL : Hid (rL (OkN rT1 rL1 ∧ OkN t3 l3) (Rat.divInt rT1 rL1 * Rat.divInt t3 l3) = eL) := Lib.hid hgL
            generalize hgE : rE (OkN rT1 rL1 ∧ OkN t3 l3) (Rat.divInt rT1 rL1 * Rat.divInt t3 l3) = eE at *
            replace hgE : Hid (rE (OkN rT1 rL1 ∧ OkN t3 l3) (Rat.divInt rT1 rL1 * Rat.divInt t3 l3) = eE) := Lib.hid hgE
            have HG14T := hgT
            clear hgT
            have HG14L := hgL
            clear hgL
            have HG14E := hgE
            clear hgE
            unfold NumR at he
            subst he
            replace x_a := blk_alloc (blk_below x_a hB14) (.cells #[.int .i64 eT, .int .i64 eL] 23)
            replace x_b := blk_alloc (blk_below x_b hB14) (.cells #[.int .i64 eT, .int .i64 eL] 23)
            replace x_c := blk_alloc (blk_below x_c hB14) (.cells #[.int .i64 eT, .int .i64 eL] 23)
            replace x_p := blk_alloc (blk_below x_p hB14) (.cells #[.int .i64 eT, .int .i64 eL] 23)
            replace x_q := blk_alloc (blk_below x_q hB14) (.cells #[.int .i64 eT, .int .i64 eL] 23)
            replace x_r := blk_alloc (blk_below x_r hB14) (.cells #[.int .i64 eT, .int .i64 eL] 23)
            replace x_s := blk_alloc (blk_below x_s hB14) (.cells #[.int .i64 eT, .int .i64 eL] 23)
            replace x_d := blk_alloc (blk_below x_d hB14) (.cells #[.int .i64 eT, .int .i64 eL] 23)
            replace x_x0 := blk_alloc (blk_below x_x0 hB14) (.cells #[.int .i64 eT, .int .i64 eL] 23)
            replace x_y0 := blk_alloc (blk_below x_y0 hB14) (.cells #[.int .i64 eT, .int .i64 eL] 23)
            replace x_z0 := blk_alloc (blk_below x_z0 hB14) (.cells #[.int .i64 eT, .int .i64 eL] 23)
            replace x_v0 := blk_alloc (blk_below x_v0 hB14) (.cells #[.int .i64 eT, .int .i64 eL] 23)
            replace x_x := blk_alloc (blk_below x_x hB14) (.cells #[.int .i64 eT, .int .i64 eL] 23)
            replace B0 := bl_alloc (bl_then B0 hB14) (.cells #[.int .i64 eT, .int .i64 eL] 23)
            have x_y1 : (wk14.alloc (.cells #[.int .i64 eT, .int .i64 eL] 23)).heap[wk14.heap.size]? = some (.cells #[.int .i64 eT, .int .i64 eL] 23 (0, 0)) := blk_at _ rfl
            have lt14 : g13 < wk14.heap.size := by
              have h1 := hB14.size
              have h2 := hmx
              omega
            clear hB14 hmx
            go_upto_region 28 with (fail)
            generalize hgs : wk14.heap.size = g14 at *
            generalize hgw : wk14.alloc (.cells #[.int .i64 eT, .int .i64 eL] 23) = wn14 at *
            have hmx : g14 < wn14.heap.size := by rw [← hgw, World.size_alloc, hgs]; omega
            clear hgs hgw
            obtain ⟨u11, u12, u13, u14⟩ := bx2 x_b
            obtain ⟨u21, u22, u23, u24⟩ := bx2 x_c
            go_wp2_with fail
            refine (nmul_calls t2 l2 t3 l3 _ I2.out.1.1 I2.out.1.2 I2.out.2.1 I2.out.2.2 I3.out.1.1 I3.out.1.2 I3.out.2.1 I3.out.2.2).mono ?_
            rintro e wk15 ⟨he, hB15⟩
            clear u11 u12 u13 u14 u21 u22 u23 u24
            have i15 := Lib.hid (r_i64 (OkN t2 l2 ∧ OkN t3 l3) (Rat.divInt t2 l2 * Rat.divInt t3 l3))
            have ok15 := Lib.hid (fun h => @r_ok (OkN t2 l2 ∧ OkN t3 l3) _ (Rat.divInt t2 l2 * Rat.divInt t3 l3) h)
            generalize hgT : rT (OkN t2 l2 ∧ OkN t3 l3) (Rat.divInt t2 l2 * Rat.divInt t3 l3) = fT at *
            replace hgT : Hid (rT (OkN t2 l2 ∧ OkN t3 l3) (Rat.divInt t2 l2 * Rat.divInt t3 l3) = fT) := Lib.hid hgT
            generalize hgL : rL (OkN t2 l2 ∧ OkN t3 l3) (Rat.divInt t2 l2 * Rat.divInt t3 l3) = fL at *
            replace hgL : Hid (rL (OkN t2 l2 ∧ OkN t3 l3) (Rat.divInt t2 l2 * Rat.divInt t3 l3) = fL) := Lib.hid hgL
            generalize hgE : rE (OkN t2 l2 ∧ OkN t3 l3) (Rat.divInt t2 l2 * Rat.divInt t3 l3) = fE at *
            replace hgE : Hid (rE (OkN t2 l2 ∧ OkN t3 l3) (Rat.divInt t2 l2 * Rat.divInt t3 l3) = fE) := Lib.hid hgE
            have HG15T := hgT
            clear hgT
            have HG15L := hgL
            clear hgL
            have HG15E := hgE
            clear hgE
            unfold NumR at he
            subst he
            replace x_a := blk_alloc (blk_below x_a hB15) (.cells #[.int .i64 fT, .int .i64 fL] 23)
            replace x_b := blk_alloc (blk_below x_b hB15) (.cells #[.int .i64 fT, .int .i64 fL] 23)
            replace x_c := blk_alloc (blk_below x_c hB15) (.cells #[.int .i64 fT, .int .i64 fL] 23)
            replace x_p := blk_alloc (blk_below x_p hB15) (.cells #[.int .i64 fT, .int .i64 fL] 23)
            replace x_q := blk_alloc (blk_below x_q hB15) (.cells #[.int .i64 fT, .int .i64 fL] 23)
            replace x_r := blk_alloc (blk_below x_r hB15) (.cells #[.int .i64 fT, .int .i64 fL] 23)
            replace x_s := blk_alloc (blk_below x_s hB15) (.cells #[.int .i64 fT, .int .i64 fL] 23)
            replace x_d := blk_alloc (blk_below x_d hB15) (.cells #[.int .i64 fT, .int .i64 fL] 23)
            replace x_x0 := blk_alloc (blk_below x_x0 hB15) (.cells #[.int .i64 fT, .int .i64 fL] 23)
            replace x_y0 := blk_alloc (blk_below x_y0 hB15) (.cells #[.int .i64 fT, .int .i64 fL] 23)
            replace x_z0 := blk_alloc (blk_below x_z0 hB15) (.cells #[.int .i64 fT, .int .i64 fL] 23)
            replace x_v0 := blk_alloc (blk_below x_v0 hB15) (.cells #[.int .i64 fT, .int .i64 fL] 23)
            replace x_x := blk_alloc (blk_below x_x hB15) (.cells #[.int .i64 fT, .int .i64 fL] 23)
            replace x_y1 := blk_alloc (blk_below x_y1 hB15) (.cells #[.int .i64 fT, .int .i64 fL] 23)
            replace B0 := bl_alloc (bl_then B0 hB15) (.cells #[.int .i64 fT, .int .i64 fL] 23)
            have x_y2 : (wk15.alloc (.cells #[.int .i64 fT, .int .i64 fL] 23)).heap[wk15.heap.size]? = some (.cells #[.int .i64 fT, .int .i64 fL] 23 (0, 0)) := blk_at _ rfl
            have lt15 : g14 < wk15.heap.size := by
              have h1 := hB15.size
              have h2 := hmx
              omega
            clear hB15 hmx
            go_upto_region 29 with (fail)
            generalize hgs : wk15.heap.size = g15 at *
            generalize hgw : wk15.alloc (.cells #[.int .i64 fT, .int .i64 fL] 23) = wn15 at *
            have hmx : g15 < wn15.heap.size := by rw [← hgw, World.size_alloc, hgs]; omega
            clear hgs hgw
            obtain ⟨u11, u12, u13, u14⟩ := bx2 x_a
            obtain ⟨u21, u22, u23, u24⟩ := bx2 x_y2
            go_wp2_with fail
            refine (nmul_calls t1 l1 fT fL _ I1.out.1.1 I1.out.1.2 I1.out.2.1 I1.out.2.2 i15.out.1.1 i15.out.1.2 i15.out.2.1 i15.out.2.2).mono ?_
            rintro e wk16 ⟨he, hB16⟩
            clear u11 u12 u13 u14 u21 u22 u23 u24
            have i16 := Lib.hid (r_i64 (OkN t1 l1 ∧ OkN fT fL) (Rat.divInt t1 l1 * Rat.divInt fT fL))
            have ok16 := Lib.hid (fun h => @r_ok (OkN t1 l1 ∧ OkN fT fL) _ (Rat.divInt t1 l1 * Rat.divInt fT fL) h)
            generalize hgT : rT (OkN t1 l1 ∧ OkN fT fL) (Rat.divInt t1 l1 * Rat.divInt fT fL) = hT at *
            replace hgT : Hid (rT (OkN t1 l1 ∧ OkN fT fL) (Rat.divInt t1 l1 * Rat.divInt fT fL) = hT) := Lib.hid hgT
            generalize hgL : rL (OkN t1 l1 ∧ OkN fT fL) (Rat.divInt t1 l1 * Rat.divInt fT fL) = hL at *
            replace hgL : Hid (rL (OkN t1 l1 ∧ OkN fT fL) (Rat.divInt t1 l1 * Rat.divInt fT fL) = hL) := Lib.hid hgL
            generalize hgE : rE (OkN t1 l1 ∧ OkN fT fL) (Rat.divInt t1 l1 * Rat.divInt fT fL) = hE at *
            replace hgE : Hid (rE (OkN t1 l1 ∧ OkN fT fL) (Rat.divInt t1 l1 * Rat.divInt fT fL) = hE) := Lib.hid hgE
            have HG16T := hgT
            clear hgT
            have HG16L := hgL
            clear hgL
            have HG16E := hgE
            clear hgE
            unfold NumR at he
            subst he
            replace x_a := blk_alloc (blk_below x_a hB16) (.cells #[.int .i64 hT, .int .i64 hL] 23)
            replace x_b := blk_alloc (blk_below x_b hB16) (.cells #[.int .i64 hT, .int .i64 hL] 23)
            replace x_c := blk_alloc (blk_below x_c hB16) (.cells #[.int .i64 hT, .int .i64 hL] 23)
            replace x_p := blk_alloc (blk_below x_p hB16) (.cells #[.int .i64 hT, .int .i64 hL] 23)
            replace x_q := blk_alloc (blk_below x_q hB16) (.cells #[.int .i64 hT, .int .i64 hL] 23)
            replace x_r := blk_alloc (blk_below x_r hB16) (.cells #[.int .i64 hT, .int .i64 hL] 23)
            replace x_s := blk_alloc (blk_below x_s hB16) (.cells #[.int .i64 hT, .int .i64 hL] 23)
            replace x_d := blk_alloc (blk_below x_d hB16) (.cells #[.int .i64 hT, .int .i64 hL] 23)
            replace x_x0 := blk_alloc (blk_below x_x0 hB16) (.cells #[.int .i64 hT, .int .i64 hL] 23)
            replace x_y0 := blk_alloc (blk_below x_y0 hB16) (.cells #[.int .i64 hT, .int .i64 hL] 23)
            replace x_z0 := blk_alloc (blk_below x_z0 hB16) (.cells #[.int .i64 hT, .int .i64 hL] 23)
            replace x_v0 := blk_alloc (blk_below x_v0 hB16) (.cells #[.int .i64 hT, .int .i64 hL] 23)
            replace x_x := blk_alloc (blk_below x_x hB16) (.cells #[.int .i64 hT, .int .i64 hL] 23)
            replace x_y1 := blk_alloc (blk_below x_y1 hB16) (.cells #[.int .i64 hT, .int .i64 hL] 23)
            replace x_y2 := blk_alloc (blk_below x_y2 hB16) (.cells #[.int .i64 hT, .int .i64 hL] 23)
            replace B0 := bl_alloc (bl_then B0 hB16) (.cells #[.int .i64 hT, .int .i64 hL] 23)
            have x_y3 : (wk16.alloc (.cells #[.int .i64 hT, .int .i64 hL] 23)).heap[wk16.heap.size]? = some (.cells #[.int .i64 hT, .int .i64 hL] 23 (0, 0)) := blk_at _ rfl
            have lt16 : g15 < wk16.heap.size := by
              have h1 := hB16.size
              have h2 := hmx
              omega
            clear hB16 hmx
            go_upto_region 30 with (fail)
            generalize hgs : wk16.heap.size = g16 at *
            generalize hgw : wk16.alloc (.cells #[.int .i64 hT, .int .i64 hL] 23) = wn16 at *
            have hmx : g16 < wn16.heap.size := by rw [← hgw, World.size_alloc, hgs]; omega
            clear hgs hgw
            by_cases c1 : eE = 0
            · have n1 : (eE != 0) = false := by simp [c1]
              by_cases c2 : fE = 0
              · have n2 : (fE != 0) = false := by simp [c2]
                by_cases c3 : hE = 0
                · have n3 : (hE != 0) = false := by simp [c3]
                  have EQ := ok_inj (ok14.out c1).2.1 (ok16.out c3).2.1 (by rw [(ok14.out c1).2.2, (ok16.out c3).2.2, (ok15.out c2).2.2, okr.out.2.2, Rat.mul_assoc])
                  obtain ⟨e1, e2⟩ := EQ
                  replace c1 := Lib.hid c1
                  replace c2 := Lib.hid c2
                  replace c3 := Lib.hid c3
                  rw [e1, e2] at x_y1
                  replace e1 := Lib.hid e1
                  replace e2 := Lib.hid e2
                  obtain ⟨u11, u12, u13, u14⟩ := bx2 x_y1
                  obtain ⟨u21, u22, u23, u24⟩ := bx2 x_y3
                  go_wp2_with fail
                  refine (awake_calls _).mono ?_
                  rintro e wz ⟨rfl, hBz⟩
                  go_wp2
                  go_ret
                  exact ⟨rfl, bl_then B0 hBz⟩
                · have n3 : (hE != 0) = true := by simp [c3]
                  replace c3 : Hid (¬ hE = 0) := Lib.hid c3
                  replace c1 := Lib.hid c1
                  replace c2 := Lib.hid c2
                  go_wp2_with fail
                  refine (awake_calls _).mono ?_
                  rintro e wz ⟨rfl, hBz⟩
                  go_wp2
                  go_ret
                  exact ⟨rfl, bl_then B0 hBz⟩
              · have n2 : (fE != 0) = true := by simp [c2]
                replace c2 : Hid (¬ fE = 0) := Lib.hid c2
                replace c1 := Lib.hid c1
                go_wp2_with fail
                refine (awake_calls _).mono ?_
                rintro e wz ⟨rfl, hBz⟩
                go_wp2
                go_ret
                exact ⟨rfl, bl_then B0 hBz⟩
            · have n1 : (eE != 0) = true := by simp [c1]
              replace c1 : Hid (¬ eE = 0) := Lib.hid c1
              go_wp2_with fail
              refine (awake_calls _).mono ?_
              rintro e wz ⟨rfl, hBz⟩
              go_wp2
              go_ret
              exact ⟨rfl, bl_then B0 hBz⟩
          · replace hz : Hid (t2 ≠ 0) := Lib.hid hz
            obtain ⟨u11, u12, u13, u14⟩ := bx2 x_r
            obtain ⟨u21, u22, u23, u24⟩ := bx2 x_b
            go_wp2_with fail
            refine (ndiv_calls rT1 rL1 t2 l2 _ i3.out.1.1 i3.out.1.2 i3.out.2.1 i3.out.2.2 I2.out.1.1 I2.out.1.2 I2.out.2.1 I2.out.2.2).mono ?_
            rintro e wk13 ⟨he, hB13⟩
            clear u11 u12 u13 u14 u21 u22 u23 u24
            have VL := f_div okr.out.1.1 okr.out.1.2 okr.out.2.1 okr.out.2.2 hz.out
            rw [VL.1, VL.2.1, VL.2.2] at he
            clear VL
            unfold NumR at he
            subst he
            replace x_a := blk_alloc (blk_below x_a hB13) (.cells #[.int .i64 t1, .int .i64 l1] 23)
            replace x_b := blk_alloc (blk_below x_b hB13) (.cells #[.int .i64 t1, .int .i64 l1] 23)
            replace x_c := blk_alloc (blk_below x_c hB13) (.cells #[.int .i64 t1, .int .i64 l1] 23)
            replace x_p := blk_alloc (blk_below x_p hB13) (.cells #[.int .i64 t1, .int .i64 l1] 23)
            replace x_q := blk_alloc (blk_below x_q hB13) (.cells #[.int .i64 t1, .int .i64 l1] 23)
            replace x_r := blk_alloc (blk_below x_r hB13) (.cells #[.int .i64 t1, .int .i64 l1] 23)
            replace x_s := blk_alloc (blk_below x_s hB13) (.cells #[.int .i64 t1, .int .i64 l1] 23)
            replace x_d := blk_alloc (blk_below x_d hB13) (.cells #[.int .i64 t1, .int .i64 l1] 23)
            replace x_x0 := blk_alloc (blk_below x_x0 hB13) (.cells #[.int .i64 t1, .int .i64 l1] 23)
            replace x_y0 := blk_alloc (blk_below x_y0 hB13) (.cells #[.int .i64 t1, .int .i64 l1] 23)
            replace x_z0 := blk_alloc (blk_below x_z0 hB13) (.cells #[.int .i64 t1, .int .i64 l1] 23)
            replace x_v0 := blk_alloc (blk_below x_v0 hB13) (.cells #[.int .i64 t1, .int .i64 l1] 23)
            replace B0 := bl_alloc (bl_then B0 hB13) (.cells #[.int .i64 t1, .int .i64 l1] 23)
            have x_x : (wk13.alloc (.cells #[.int .i64 t1, .int .i64 l1] 23)).heap[wk13.heap.size]? = some (.cells #[.int .i64 t1, .int .i64 l1] 23 (0, 0)) := blk_at _ rfl
            have lt13 : g12 < wk13.heap.size := by
              have h1 := hB13.size
              have h2 := hmx
              omega
            clear hB13 hmx
            go_upto_region 25 with (fail)
            generalize hgs : wk13.heap.size = g13 at *
            generalize hgw : wk13.alloc (.cells #[.int .i64 t1, .int .i64 l1] 23) = wn13 at *
            have hmx : g13 < wn13.heap.size := by rw [← hgw, World.size_alloc, hgs]; omega
            clear hgs hgw
            obtain ⟨u11, u12, u13, u14⟩ := bx2 x_x
            obtain ⟨u21, u22, u23, u24⟩ := bx2 x_a
            go_upto_region 27 with (fail)
            clear u11 u12 u13 u14 u21 u22 u23 u24
            obtain ⟨u11, u12, u13, u14⟩ := bx2 x_r
            obtain ⟨u21, u22, u23, u24⟩ := bx2 x_c
            go_wp2_with fail
            refine (nmul_calls rT1 rL1 t3 l3 _ i3.out.1.1 i3.out.1.2 i3.out.2.1 i3.out.2.2 I3.out.1.1 I3.out.1.2 I3.out.2.1 I3.out.2.2).mono ?_
            rintro e wk14 ⟨he, hB14⟩
            clear u11 u12 u13 u14 u21 u22 u23 u24
            have i14 := Lib.hid (r_i64 (OkN rT1 rL1 ∧ OkN t3 l3) (Rat.divInt rT1 rL1 * Rat.divInt t3 l3))
            have ok14 := Lib.hid (fun h => @r_ok (OkN rT1 rL1 ∧ OkN t3 l3) _ (Rat.divInt rT1 rL1 * Rat.divInt t3 l3) h)
            generalize hgT : rT (OkN rT1 rL1 ∧ OkN t3 l3) (Rat.divInt rT1 rL1 * Rat.divInt t3 l3) = eT at *
            replace hgT : Hid (rT (OkN rT1 rL1 ∧ OkN t3 l3) (Rat.divInt rT1 rL1 * Rat.divInt t3 l3) = eT) := Lib.hid hgT
            generalize hgL : rL (OkN rT1 rL1 ∧ OkN t3 l3) (Rat.divInt rT1 rL1 * Rat.divInt t3 l3) = eL at *
            replace hgL : Hid (rL (OkN rT1 rL1 ∧ OkN t3 l3) (Rat.divInt rT1 rL1 * Rat.divInt t3 l3) = eL) := Lib.hid hgL
            generalize hgE : rE (OkN rT1 rL1 ∧ OkN t3 l3) (Rat.divInt rT1 rL1 * Rat.divInt t3 l3) = eE at *
            replace hgE : Hid (rE (OkN rT1 rL1 ∧ OkN t3 l3) (Rat.divInt rT1 rL1 * Rat.divInt t3 l3) = eE) := Lib.hid hgE
            have HG14T := hgT
            clear hgT
            have HG14L := hgL
            clear hgL
            have HG14E := hgE
            clear hgE
            unfold NumR at he
            subst he
            replace x_a := blk_alloc (blk_below x_a hB14) (.cells #[.int .i64 eT, .int .i64 eL] 23)
            replace x_b := blk_alloc (blk_below x_b hB14) (.cells #[.int .i64 eT, .int .i64 eL] 23)
            replace x_c := blk_alloc (blk_below x_c hB14) (.cells #[.int .i64 eT, .int .i64 eL] 23)
            replace x_p := blk_alloc (blk_below x_p hB14) (.cells #[.int .i64 eT, .int .i64 eL] 23)
            replace x_q := blk_alloc (blk_below x_q hB14) (.cells #[.int .i64 eT, .int .i64 eL] 23)
            replace x_r := blk_alloc (blk_below x_r hB14) (.cells #[.int .i64 eT, .int .i64 eL] 23)
            replace x_s := blk_alloc (blk_below x_s hB14) (.cells #[.int .i64 eT, .int .i64 eL] 23)
            replace x_d := blk_alloc (blk_below x_d hB14) (.cells #[.int .i64 eT, .int .i64 eL] 23)
            replace x_x0 := blk_alloc (blk_below x_x0 hB14) (.cells #[.int .i64 eT, .int .i64 eL] 23)
            replace x_y0 := blk_alloc (blk_below x_y0 hB14) (.cells #[.int .i64 eT, .int .i64 eL] 23)
            replace x_z0 := blk_alloc (blk_below x_z0 hB14) (.cells #[.int .i64 eT, .int .i64 eL] 23)
            replace x_v0 := blk_alloc (blk_below x_v0 hB14) (.cells #[.int .i64 eT, .int .i64 eL] 23)
            replace x_x := blk_alloc (blk_below x_x hB14) (.cells #[.int .i64 eT, .int .i64 eL] 23)
            replace B0 := bl_alloc (bl_then B0 hB14) (.cells #[.int .i64 eT, .int .i64 eL] 23)
            have x_y1 : (wk14.alloc (.cells #[.int .i64 eT, .int .i64 eL] 23)).heap[wk14.heap.size]? = some (.cells #[.int .i64 eT, .int .i64 eL] 23 (0, 0)) := blk_at _ rfl
            have lt14 : g13 < wk14.heap.size := by
              have h1 := hB14.size
              have h2 := hmx
              omega
            clear hB14 hmx
            go_upto_region 28 with (fail)
            generalize hgs : wk14.heap.size = g14 at *
            generalize hgw : wk14.alloc (.cells #[.int .i64 eT, .int .i64 eL] 23) = wn14 at *
            have hmx : g14 < wn14.heap.size := by rw [← hgw, World.size_alloc, hgs]; omega
            clear hgs hgw
            obtain ⟨u11, u12, u13, u14⟩ := bx2 x_b
            obtain ⟨u21, u22, u23, u24⟩ := bx2 x_c
            go_wp2_with fail
            refine (nmul_calls t2 l2 t3 l3 _ I2.out.1.1 I2.out.1.2 I2.out.2.1 I2.out.2.2 I3.out.1.1 I3.out.1.2 I3.out.2.1 I3.out.2.2).mono ?_
            rintro e wk15 ⟨he, hB15⟩
            clear u11 u12 u13 u14 u21 u22 u23 u24
            have i15 := Lib.hid (r_i64 (OkN t2 l2 ∧ OkN t3 l3) (Rat.divInt t2 l2 * Rat.divInt t3 l3))
            have ok15 := Lib.hid (fun h => @r_ok (OkN t2 l2 ∧ OkN t3 l3) _ (Rat.divInt t2 l2 * Rat.divInt t3 l3) h)
            generalize hgT : rT (OkN t2 l2 ∧ OkN t3 l3) (Rat.divInt t2 l2 * Rat.divInt t3 l3) = fT at *
            replace hgT : Hid (rT (OkN t2 l2 ∧ OkN t3 l3) (Rat.divInt t2 l2 * Rat.divInt t3 l3) = fT) := Lib.hid hgT
            generalize hgL : rL (OkN t2 l2 ∧ OkN t3 l3) (Rat.divInt t2 l2 * Rat.divInt t3 l3) = fL at *
            replace hgL : Hid (rL (OkN t2 l2 ∧ OkN t3 l3) (Rat.divInt t2 l2 * Rat.divInt t3 l3) = fL) := Lib.hid hgL
            generalize hgE : rE (OkN t2 l2 ∧ OkN t3 l3) (Rat.divInt t2 l2 * Rat.divInt t3 l3) = fE at *
            replace hgE : Hid (rE (OkN t2 l2 ∧ OkN t3 l3) (Rat.divInt t2 l2 * Rat.divInt t3 l3) = fE) := Lib.hid hgE
            have HG15T := hgT
            clear hgT
            have HG15L := hgL
            clear hgL
            have HG15E := hgE
            clear hgE
            unfold NumR at he
            subst he
            replace x_a := blk_alloc (blk_below x_a hB15) (.cells #[.int .i64 fT, .int .i64 fL] 23)
            replace x_b := blk_alloc (blk_below x_b hB15) (.cells #[.int .i64 fT, .int .i64 fL] 23)
            replace x_c := blk_alloc (blk_below x_c hB15) (.cells #[.int .i64 fT, .int .i64 fL] 23)
            replace x_p := blk_alloc (blk_below x_p hB15) (.cells #[.int .i64 fT, .int .i64 fL] 23)
            replace x_q := blk_alloc (blk_below x_q hB15) (.cells #[.int .i64 fT, .int .i64 fL] 23)
            replace x_r := blk_alloc (blk_below x_r hB15) (.cells #[.int .i64 fT, .int .i64 fL] 23)
            replace x_s := blk_alloc (blk_below x_s hB15) (.cells #[.int .i64 fT, .int .i64 fL] 23)
            replace x_d := blk_alloc (blk_below x_d hB15) (.cells #[.int .i64 fT, .int .i64 fL] 23)
            replace x_x0 := blk_alloc (blk_below x_x0 hB15) (.cells #[.int .i64 fT, .int .i64 fL] 23)
            replace x_y0 := blk_alloc (blk_below x_y0 hB15) (.cells #[.int .i64 fT, .int .i64 fL] 23)
            replace x_z0 := blk_alloc (blk_below x_z0 hB15) (.cells #[.int .i64 fT, .int .i64 fL] 23)
            replace x_v0 := blk_alloc (blk_below x_v0 hB15) (.cells #[.int .i64 fT, .int .i64 fL] 23)
            replace x_x := blk_alloc (blk_below x_x hB15) (.cells #[.int .i64 fT, .int .i64 fL] 23)
            replace x_y1 := blk_alloc (blk_below x_y1 hB15) (.cells #[.int .i64 fT, .int .i64 fL] 23)
            replace B0 := bl_alloc (bl_then B0 hB15) (.cells #[.int .i64 fT, .int .i64 fL] 23)
            have x_y2 : (wk15.alloc (.cells #[.int .i64 fT, .int .i64 fL] 23)).heap[wk15.heap.size]? = some (.cells #[.int .i64 fT, .int .i64 fL] 23 (0, 0)) := blk_at _ rfl
            have lt15 : g14 < wk15.heap.size := by
              have h1 := hB15.size
              have h2 := hmx
              omega
            clear hB15 hmx
            go_upto_region 29 with (fail)
            generalize hgs : wk15.heap.size = g15 at *
            generalize hgw : wk15.alloc (.cells #[.int .i64 fT, .int .i64 fL] 23) = wn15 at *
            have hmx : g15 < wn15.heap.size := by rw [← hgw, World.size_alloc, hgs]; omega
            clear hgs hgw
            obtain ⟨u11, u12, u13, u14⟩ := bx2 x_a
            obtain ⟨u21, u22, u23, u24⟩ := bx2 x_y2
            go_wp2_with fail
            refine (nmul_calls t1 l1 fT fL _ I1.out.1.1 I1.out.1.2 I1.out.2.1 I1.out.2.2 i15.out.1.1 i15.out.1.2 i15.out.2.1 i15.out.2.2).mono ?_
            rintro e wk16 ⟨he, hB16⟩
            clear u11 u12 u13 u14 u21 u22 u23 u24
            have i16 := Lib.hid (r_i64 (OkN t1 l1 ∧ OkN fT fL) (Rat.divInt t1 l1 * Rat.divInt fT fL))
            have ok16 := Lib.hid (fun h => @r_ok (OkN t1 l1 ∧ OkN fT fL) _ (Rat.divInt t1 l1 * Rat.divInt fT fL) h)
            generalize hgT : rT (OkN t1 l1 ∧ OkN fT fL) (Rat.divInt t1 l1 * Rat.divInt fT fL) = hT at *
            replace hgT : Hid (rT (OkN t1 l1 ∧ OkN fT fL) (Rat.divInt t1 l1 * Rat.divInt fT fL) = hT) := Lib.hid hgT
            generalize hgL : rL (OkN t1 l1 ∧ OkN fT fL) (Rat.divInt t1 l1 * Rat.divInt fT fL) = hL at *
            replace hgL : Hid (rL (OkN t1 l1 ∧ OkN fT fL) (Rat.divInt t1 l1 * Rat.divInt fT fL) = hL) := Lib.hid hgL
            generalize hgE : rE (OkN t1 l1 ∧ OkN fT fL) (Rat.divInt t1 l1 * Rat.divInt fT fL) = hE at *
            replace hgE : Hid (rE (OkN t1 l1 ∧ OkN fT fL) (Rat.divInt t1 l1 * Rat.divInt fT fL) = hE) := Lib.hid hgE
            have HG16T := hgT
            clear hgT
            have HG16L := hgL
            clear hgL
            have HG16E := hgE
            clear hgE
            unfold NumR at he
            subst he
            replace x_a := blk_alloc (blk_below x_a hB16) (.cells #[.int .i64 hT, .int .i64 hL] 23)
            replace x_b := blk_alloc (blk_below x_b hB16) (.cells #[.int .i64 hT, .int .i64 hL] 23)
            replace x_c := blk_alloc (blk_below x_c hB16) (.cells #[.int .i64 hT, .int .i64 hL] 23)
            replace x_p := blk_alloc (blk_below x_p hB16) (.cells #[.int .i64 hT, .int .i64 hL] 23)
            replace x_q := blk_alloc (blk_below x_q hB16) (.cells #[.int .i64 hT, .int .i64 hL] 23)
            replace x_r := blk_alloc (blk_below x_r hB16) (.cells #[.int .i64 hT, .int .i64 hL] 23)
            replace x_s := blk_alloc (blk_below x_s hB16) (.cells #[.int .i64 hT, .int .i64 hL] 23)
            replace x_d := blk_alloc (blk_below x_d hB16) (.cells #[.int .i64 hT, .int .i64 hL] 23)
            replace x_x0 := blk_alloc (blk_below x_x0 hB16) (.cells #[.int .i64 hT, .int .i64 hL] 23)
            replace x_y0 := blk_alloc (blk_below x_y0 hB16) (.cells #[.int .i64 hT, .int .i64 hL] 23)
            replace x_z0 := blk_alloc (blk_below x_z0 hB16) (.cells #[.int .i64 hT, .int .i64 hL] 23)
            replace x_v0 := blk_alloc (blk_below x_v0 hB16) (.cells #[.int .i64 hT, .int .i64 hL] 23)
            replace x_x := blk_alloc (blk_below x_x hB16) (.cells #[.int .i64 hT, .int .i64 hL] 23)
            replace x_y1 := blk_alloc (blk_below x_y1 hB16) (.cells #[.int .i64 hT, .int .i64 hL] 23)
            replace x_y2 := blk_alloc (blk_below x_y2 hB16) (.cells #[.int .i64 hT, .int .i64 hL] 23)
            replace B0 := bl_alloc (bl_then B0 hB16) (.cells #[.int .i64 hT, .int .i64 hL] 23)
            have x_y3 : (wk16.alloc (.cells #[.int .i64 hT, .int .i64 hL] 23)).heap[wk16.heap.size]? = some (.cells #[.int .i64 hT, .int .i64 hL] 23 (0, 0)) := blk_at _ rfl
            have lt16 : g15 < wk16.heap.size := by
              have h1 := hB16.size
              have h2 := hmx
              omega
            clear hB16 hmx
            go_upto_region 30 with (fail)
            generalize hgs : wk16.heap.size = g16 at *
            generalize hgw : wk16.alloc (.cells #[.int .i64 hT, .int .i64 hL] 23) = wn16 at *
            have hmx : g16 < wn16.heap.size := by rw [← hgw, World.size_alloc, hgs]; omega
            clear hgs hgw
            by_cases c1 : eE = 0
            · have n1 : (eE != 0) = false := by simp [c1]
              by_cases c2 : fE = 0
              · have n2 : (fE != 0) = false := by simp [c2]
                by_cases c3 : hE = 0
                · have n3 : (hE != 0) = false := by simp [c3]
                  have EQ := ok_inj (ok14.out c1).2.1 (ok16.out c3).2.1 (by rw [(ok14.out c1).2.2, (ok16.out c3).2.2, (ok15.out c2).2.2, okr.out.2.2, Rat.mul_assoc])
                  obtain ⟨e1, e2⟩ := EQ
                  replace c1 := Lib.hid c1
                  replace c2 := Lib.hid c2
                  replace c3 := Lib.hid c3
                  rw [e1, e2] at x_y1
                  replace e1 := Lib.hid e1
                  replace e2 := Lib.hid e2
                  obtain ⟨u11, u12, u13, u14⟩ := bx2 x_y1
                  obtain ⟨u21, u22, u23, u24⟩ := bx2 x_y3
                  go_wp2_with fail
                  refine (awake_calls _).mono ?_
                  rintro e wz ⟨rfl, hBz⟩
                  go_wp2
                  go_ret
                  exact ⟨rfl, bl_then B0 hBz⟩
                · have n3 : (hE != 0) = true := by simp [c3]
                  replace c3 : Hid (¬ hE = 0) := Lib.hid c3
                  replace c1 := Lib.hid c1
                  replace c2 := Lib.hid c2
                  go_wp2_with fail
                  refine (awake_calls _).mono ?_
                  rintro e wz ⟨rfl, hBz⟩
                  go_wp2
                  go_ret
                  exact ⟨rfl, bl_then B0 hBz⟩
              · have n2 : (fE != 0) = true := by simp [c2]
                replace c2 : Hid (¬ fE = 0) := Lib.hid c2
                replace c1 := Lib.hid c1
                go_wp2_with fail
                refine (awake_calls _).mono ?_
                rintro e wz ⟨rfl, hBz⟩
                go_wp2
                go_ret
                exact ⟨rfl, bl_then B0 hBz⟩
            · have n1 : (eE != 0) = true := by simp [c1]
              replace c1 : Hid (¬ eE = 0) := Lib.hid c1
              go_wp2_with fail
              refine (awake_calls _).mono ?_
              rintro e wz ⟨rfl, hBz⟩
              go_wp2
              go_ret
              exact ⟨rfl, bl_then B0 hBz⟩
        · have hgb : (rE1 != 0) = true := by simp [hg]
          replace hg : Hid (¬ rE1 = 0) := Lib.hid hg
          go_wp2_with fail
          refine (awake_calls _).mono ?_
          rintro e wz ⟨rfl, hBz⟩
          go_wp2
          go_ret
          exact ⟨rfl, bl_then B0 hBz⟩
  · have heb : (pE == 0) = false := by simp [he0]
    replace he0 : Hid (¬ pE = 0) := Lib.hid he0
    go_upto_region 22 with (fail)
    clear heb
    by_cases hg : rE1 = 0
    · have hgb : (rE1 != 0) = false := by simp [hg]
      have okr := Lib.hid (ok3.out hg)
      replace hg := Lib.hid hg
      go_upto_region 24 with (fail)
      by_cases hz : t2 = 0
      · have dz := Lib.hid (f_div0 okr.out.1.2 okr.out.2.1 hz)
        replace hz := Lib.hid hz
        obtain ⟨u11, u12, u13, u14⟩ := bx2 x_r
        obtain ⟨u21, u22, u23, u24⟩ := bx2 x_b
        go_wp2_with fail
        refine (ndiv_calls rT1 rL1 t2 l2 _ i3.out.1.1 i3.out.1.2 i3.out.2.1 i3.out.2.2 I2.out.1.1 I2.out.1.2 I2.out.2.1 I2.out.2.2).mono ?_
        rintro e wk5 ⟨he, hB5⟩
        clear u11 u12 u13 u14 u21 u22 u23 u24
        have i5 := Lib.hid (d_i64 rT1 rL1 t2 l2)
        generalize hgT : dT rT1 rL1 t2 l2 = dT1 at *
        replace hgT : Hid (dT rT1 rL1 t2 l2 = dT1) := Lib.hid hgT
        generalize hgL : dL rT1 rL1 t2 l2 = dL1 at *
        replace hgL : Hid (dL rT1 rL1 t2 l2 = dL1) := Lib.hid hgL
        generalize hgE : dE rT1 rL1 t2 l2 = dE1 at *
        replace hgE : Hid (dE rT1 rL1 t2 l2 = dE1) := Lib.hid hgE
        have HG5T := hgT
        clear hgT
        have HG5L := hgL
        clear hgL
        have HG5E := hgE
        clear hgE
        unfold NumR at he
        subst he
        replace x_a := blk_alloc (blk_below x_a hB5) (.cells #[.int .i64 dT1, .int .i64 dL1] 23)
        replace x_b := blk_alloc (blk_below x_b hB5) (.cells #[.int .i64 dT1, .int .i64 dL1] 23)
        replace x_c := blk_alloc (blk_below x_c hB5) (.cells #[.int .i64 dT1, .int .i64 dL1] 23)
        replace x_p := blk_alloc (blk_below x_p hB5) (.cells #[.int .i64 dT1, .int .i64 dL1] 23)
        replace x_q := blk_alloc (blk_below x_q hB5) (.cells #[.int .i64 dT1, .int .i64 dL1] 23)
        replace x_r := blk_alloc (blk_below x_r hB5) (.cells #[.int .i64 dT1, .int .i64 dL1] 23)
        replace x_s := blk_alloc (blk_below x_s hB5) (.cells #[.int .i64 dT1, .int .i64 dL1] 23)
        replace B0 := bl_alloc (bl_then B0 hB5) (.cells #[.int .i64 dT1, .int .i64 dL1] 23)
        have x_x : (wk5.alloc (.cells #[.int .i64 dT1, .int .i64 dL1] 23)).heap[wk5.heap.size]? = some (.cells #[.int .i64 dT1, .int .i64 dL1] 23 (0, 0)) := blk_at _ rfl
        have lt5 : g4 < wk5.heap.size := by
          have h1 := hB5.size
          have h2 := hmx
          omega
        clear hB5 hmx
        go_upto_region 25 with (fail)
        generalize hgs : wk5.heap.size = g5 at *
        generalize hgw : wk5.alloc (.cells #[.int .i64 dT1, .int .i64 dL1] 23) = wn5 at *
        have hmx : g5 < wn5.heap.size := by rw [← hgw, World.size_alloc, hgs]; omega
        clear hgs hgw
        have dzb : (dE1 == 0) = false := by rw [dz.out]; rfl
        obtain ⟨u11, u12, u13, u14⟩ := bx2 x_x
        obtain ⟨u21, u22, u23, u24⟩ := bx2 x_a
        go_upto_region 27 with (fail)
        clear u11 u12 u13 u14 u21 u22 u23 u24
        clear dzb
        obtain ⟨u11, u12, u13, u14⟩ := bx2 x_r
        obtain ⟨u21, u22, u23, u24⟩ := bx2 x_c
        go_wp2_with fail
        refine (nmul_calls rT1 rL1 t3 l3 _ i3.out.1.1 i3.out.1.2 i3.out.2.1 i3.out.2.2 I3.out.1.1 I3.out.1.2 I3.out.2.1 I3.out.2.2).mono ?_
        rintro e wk6 ⟨he, hB6⟩
        clear u11 u12 u13 u14 u21 u22 u23 u24
        have i6 := Lib.hid (r_i64 (OkN rT1 rL1 ∧ OkN t3 l3) (Rat.divInt rT1 rL1 * Rat.divInt t3 l3))
        have ok6 := Lib.hid (fun h => @r_ok (OkN rT1 rL1 ∧ OkN t3 l3) _ (Rat.divInt rT1 rL1 * Rat.divInt t3 l3) h)
        generalize hgT : rT (OkN rT1 rL1 ∧ OkN t3 l3) (Rat.divInt rT1 rL1 * Rat.divInt t3 l3) = eT at *
        replace hgT : Hid (rT (OkN rT1 rL1 ∧ OkN t3 l3) (Rat.divInt rT1 rL1 * Rat.divInt t3 l3) = eT) := Lib.hid hgT
        generalize hgL : rL (OkN rT1 rL1 ∧ OkN t3 l3) (Rat.divInt rT1 rL1 * Rat.divInt t3 l3) = eL at *
        replace hgL : Hid (rL (OkN rT1 rL1 ∧ OkN t3 l3) (Rat.divInt rT1 rL1 * Rat.divInt t3 l3) = eL) := Lib.hid hgL
        generalize hgE : rE (OkN rT1 rL1 ∧ OkN t3 l3) (Rat.divInt rT1 rL1 * Rat.divInt t3 l3) = eE at *
        replace hgE : Hid (rE (OkN rT1 rL1 ∧ OkN t3 l3) (Rat.divInt rT1 rL1 * Rat.divInt t3 l3) = eE) := Lib.hid hgE
        have HG6T := hgT
        clear hgT
        have HG6L := hgL
        clear hgL
        have HG6E := hgE
        clear hgE
        unfold NumR at he
        subst he
        replace x_a := blk_alloc (blk_below x_a hB6) (.cells #[.int .i64 eT, .int .i64 eL] 23)
        replace x_b := blk_alloc (blk_below x_b hB6) (.cells #[.int .i64 eT, .int .i64 eL] 23)
        replace x_c := blk_alloc (blk_below x_c hB6) (.cells #[.int .i64 eT, .int .i64 eL] 23)
        replace x_p := blk_alloc (blk_below x_p hB6) (.cells #[.int .i64 eT, .int .i64 eL] 23)
        replace x_q := blk_alloc (blk_below x_q hB6) (.cells #[.int .i64 eT, .int .i64 eL] 23)
        replace x_r := blk_alloc (blk_below x_r hB6) (.cells #[.int .i64 eT, .int .i64 eL] 23)
        replace x_s := blk_alloc (blk_below x_s hB6) (.cells #[.int .i64 eT, .int .i64 eL] 23)
        replace x_x := blk_alloc (blk_below x_x hB6) (.cells #[.int .i64 eT, .int .i64 eL] 23)
        replace B0 := bl_alloc (bl_then B0 hB6) (.cells #[.int .i64 eT, .int .i64 eL] 23)
        have x_y1 : (wk6.alloc (.cells #[.int .i64 eT, .int .i64 eL] 23)).heap[wk6.heap.size]? = some (.cells #[.int .i64 eT, .int .i64 eL] 23 (0, 0)) := blk_at _ rfl
        have lt6 : g5 < wk6.heap.size := by
          have h1 := hB6.size
          have h2 := hmx
          omega
        clear hB6 hmx
        go_upto_region 28 with (fail)
        generalize hgs : wk6.heap.size = g6 at *
        generalize hgw : wk6.alloc (.cells #[.int .i64 eT, .int .i64 eL] 23) = wn6 at *
        have hmx : g6 < wn6.heap.size := by rw [← hgw, World.size_alloc, hgs]; omega
        clear hgs hgw
        obtain ⟨u11, u12, u13, u14⟩ := bx2 x_b
        obtain ⟨u21, u22, u23, u24⟩ := bx2 x_c
        go_wp2_with fail
        refine (nmul_calls t2 l2 t3 l3 _ I2.out.1.1 I2.out.1.2 I2.out.2.1 I2.out.2.2 I3.out.1.1 I3.out.1.2 I3.out.2.1 I3.out.2.2).mono ?_
        rintro e wk7 ⟨he, hB7⟩
        clear u11 u12 u13 u14 u21 u22 u23 u24
        have i7 := Lib.hid (r_i64 (OkN t2 l2 ∧ OkN t3 l3) (Rat.divInt t2 l2 * Rat.divInt t3 l3))
        have ok7 := Lib.hid (fun h => @r_ok (OkN t2 l2 ∧ OkN t3 l3) _ (Rat.divInt t2 l2 * Rat.divInt t3 l3) h)
        generalize hgT : rT (OkN t2 l2 ∧ OkN t3 l3) (Rat.divInt t2 l2 * Rat.divInt t3 l3) = fT at *
        replace hgT : Hid (rT (OkN t2 l2 ∧ OkN t3 l3) (Rat.divInt t2 l2 * Rat.divInt t3 l3) = fT) := Lib.hid hgT
        generalize hgL : rL (OkN t2 l2 ∧ OkN t3 l3) (Rat.divInt t2 l2 * Rat.divInt t3 l3) = fL at *
        replace hgL : Hid (rL (OkN t2 l2 ∧ OkN t3 l3) (Rat.divInt t2 l2 * Rat.divInt t3 l3) = fL) := Lib.hid hgL
        generalize hgE : rE (OkN t2 l2 ∧ OkN t3 l3) (Rat.divInt t2 l2 * Rat.divInt t3 l3) = fE at *
        replace hgE : Hid (rE (OkN t2 l2 ∧ OkN t3 l3) (Rat.divInt t2 l2 * Rat.divInt t3 l3) = fE) := Lib.hid hgE
        have HG7T := hgT
        clear hgT
        have HG7L := hgL
        clear hgL
        have HG7E := hgE
        clear hgE
        unfold NumR at he
        subst he
        replace x_a := blk_alloc (blk_below x_a hB7) (.cells #[.int .i64 fT, .int .i64 fL] 23)
        replace x_b := blk_alloc (blk_below x_b hB7) (.cells #[.int .i64 fT, .int .i64 fL] 23)
        replace x_c := blk_alloc (blk_below x_c hB7) (.cells #[.int .i64 fT, .int .i64 fL] 23)
        replace x_p := blk_alloc (blk_below x_p hB7) (.cells #[.int .i64 fT, .int .i64 fL] 23)
        replace x_q := blk_alloc (blk_below x_q hB7) (.cells #[.int .i64 fT, .int .i64 fL] 23)
        replace x_r := blk_alloc (blk_below x_r hB7) (.cells #[.int .i64 fT, .int .i64 fL] 23)
        replace x_s := blk_alloc (blk_below x_s hB7) (.cells #[.int .i64 fT, .int .i64 fL] 23)
        replace x_x := blk_alloc (blk_below x_x hB7) (.cells #[.int .i64 fT, .int .i64 fL] 23)
        replace x_y1 := blk_alloc (blk_below x_y1 hB7) (.cells #[.int .i64 fT, .int .i64 fL] 23)
        replace B0 := bl_alloc (bl_then B0 hB7) (.cells #[.int .i64 fT, .int .i64 fL] 23)
        have x_y2 : (wk7.alloc (.cells #[.int .i64 fT, .int .i64 fL] 23)).heap[wk7.heap.size]? = some (.cells #[.int .i64 fT, .int .i64 fL] 23 (0, 0)) := blk_at _ rfl
        have lt7 : g6 < wk7.heap.size := by
          have h1 := hB7.size
          have h2 := hmx
          omega
        clear hB7 hmx
        go_upto_region 29 with (fail)
        generalize hgs : wk7.heap.size = g7 at *
        generalize hgw : wk7.alloc (.cells #[.int .i64 fT, .int .i64 fL] 23) = wn7 at *
        have hmx : g7 < wn7.heap.size := by rw [← hgw, World.size_alloc, hgs]; omega
        clear hgs hgw
        obtain ⟨u11, u12, u13, u14⟩ := bx2 x_a
        obtain ⟨u21, u22, u23, u24⟩ := bx2 x_y2
        go_wp2_with fail
        refine (nmul_calls t1 l1 fT fL _ I1.out.1.1 I1.out.1.2 I1.out.2.1 I1.out.2.2 i7.out.1.1 i7.out.1.2 i7.out.2.1 i7.out.2.2).mono ?_
        rintro e wk8 ⟨he, hB8⟩
        clear u11 u12 u13 u14 u21 u22 u23 u24
        have i8 := Lib.hid (r_i64 (OkN t1 l1 ∧ OkN fT fL) (Rat.divInt t1 l1 * Rat.divInt fT fL))
        have ok8 := Lib.hid (fun h => @r_ok (OkN t1 l1 ∧ OkN fT fL) _ (Rat.divInt t1 l1 * Rat.divInt fT fL) h)
        generalize hgT : rT (OkN t1 l1 ∧ OkN fT fL) (Rat.divInt t1 l1 * Rat.divInt fT fL) = hT at *
        replace hgT : Hid (rT (OkN t1 l1 ∧ OkN fT fL) (Rat.divInt t1 l1 * Rat.divInt fT fL) = hT) := Lib.hid hgT
        generalize hgL : rL (OkN t1 l1 ∧ OkN fT fL) (Rat.divInt t1 l1 * Rat.divInt fT fL) = hL at *
        replace hgL : Hid (rL (OkN t1 l1 ∧ OkN fT fL) (Rat.divInt t1 l1 * Rat.divInt fT fL) = hL) := Lib.hid hgL
        generalize hgE : rE (OkN t1 l1 ∧ OkN fT fL) (Rat.divInt t1 l1 * Rat.divInt fT fL) = hE at *
        replace hgE : Hid (rE (OkN t1 l1 ∧ OkN fT fL) (Rat.divInt t1 l1 * Rat.divInt fT fL) = hE) := Lib.hid hgE
        have HG8T := hgT
        clear hgT
        have HG8L := hgL
        clear hgL
        have HG8E := hgE
        clear hgE
        unfold NumR at he
        subst he
        replace x_a := blk_alloc (blk_below x_a hB8) (.cells #[.int .i64 hT, .int .i64 hL] 23)
        replace x_b := blk_alloc (blk_below x_b hB8) (.cells #[.int .i64 hT, .int .i64 hL] 23)
        replace x_c := blk_alloc (blk_below x_c hB8) (.cells #[.int .i64 hT, .int .i64 hL] 23)
        replace x_p := blk_alloc (blk_below x_p hB8) (.cells #[.int .i64 hT, .int .i64 hL] 23)
        replace x_q := blk_alloc (blk_below x_q hB8) (.cells #[.int .i64 hT, .int .i64 hL] 23)
        replace x_r := blk_alloc (blk_below x_r hB8) (.cells #[.int .i64 hT, .int .i64 hL] 23)
        replace x_s := blk_alloc (blk_below x_s hB8) (.cells #[.int .i64 hT, .int .i64 hL] 23)
        replace x_x := blk_alloc (blk_below x_x hB8) (.cells #[.int .i64 hT, .int .i64 hL] 23)
        replace x_y1 := blk_alloc (blk_below x_y1 hB8) (.cells #[.int .i64 hT, .int .i64 hL] 23)
        replace x_y2 := blk_alloc (blk_below x_y2 hB8) (.cells #[.int .i64 hT, .int .i64 hL] 23)
        replace B0 := bl_alloc (bl_then B0 hB8) (.cells #[.int .i64 hT, .int .i64 hL] 23)
        have x_y3 : (wk8.alloc (.cells #[.int .i64 hT, .int .i64 hL] 23)).heap[wk8.heap.size]? = some (.cells #[.int .i64 hT, .int .i64 hL] 23 (0, 0)) := blk_at _ rfl
        have lt8 : g7 < wk8.heap.size := by
          have h1 := hB8.size
          have h2 := hmx
          omega
        clear hB8 hmx
        go_upto_region 30 with (fail)
        generalize hgs : wk8.heap.size = g8 at *
        generalize hgw : wk8.alloc (.cells #[.int .i64 hT, .int .i64 hL] 23) = wn8 at *
        have hmx : g8 < wn8.heap.size := by rw [← hgw, World.size_alloc, hgs]; omega
        clear hgs hgw
        by_cases c1 : eE = 0
        · have n1 : (eE != 0) = false := by simp [c1]
          by_cases c2 : fE = 0
          · have n2 : (fE != 0) = false := by simp [c2]
            by_cases c3 : hE = 0
            · have n3 : (hE != 0) = false := by simp [c3]
              have EQ := ok_inj (ok6.out c1).2.1 (ok8.out c3).2.1 (by rw [(ok6.out c1).2.2, (ok8.out c3).2.2, (ok7.out c2).2.2, okr.out.2.2, Rat.mul_assoc])
              obtain ⟨e1, e2⟩ := EQ
              replace c1 := Lib.hid c1
              replace c2 := Lib.hid c2
              replace c3 := Lib.hid c3
              rw [e1, e2] at x_y1
              replace e1 := Lib.hid e1
              replace e2 := Lib.hid e2
              obtain ⟨u11, u12, u13, u14⟩ := bx2 x_y1
              obtain ⟨u21, u22, u23, u24⟩ := bx2 x_y3
              go_wp2_with fail
              refine (awake_calls _).mono ?_
              rintro e wz ⟨rfl, hBz⟩
              go_wp2
              go_ret
              exact ⟨rfl, bl_then B0 hBz⟩
            · have n3 : (hE != 0) = true := by simp [c3]
              replace c3 : Hid (¬ hE = 0) := Lib.hid c3
              replace c1 := Lib.hid c1
              replace c2 := Lib.hid c2
              go_wp2_with fail
              refine (awake_calls _).mono ?_
              rintro e wz ⟨rfl, hBz⟩
              go_wp2
              go_ret
              exact ⟨rfl, bl_then B0 hBz⟩
          · have n2 : (fE != 0) = true := by simp [c2]
            replace c2 : Hid (¬ fE = 0) := Lib.hid c2
            replace c1 := Lib.hid c1
            go_wp2_with fail
            refine (awake_calls _).mono ?_
            rintro e wz ⟨rfl, hBz⟩
            go_wp2
            go_ret
            exact ⟨rfl, bl_then B0 hBz⟩
        · have n1 : (eE != 0) = true := by simp [c1]
          replace c1 : Hid (¬ eE = 0) := Lib.hid c1
          go_wp2_with fail
          refine (awake_calls _).mono ?_
          rintro e wz ⟨rfl, hBz⟩
          go_wp2
          go_ret
          exact ⟨rfl, bl_then B0 hBz⟩
      · replace hz : Hid (t2 ≠ 0) := Lib.hid hz
        obtain ⟨u11, u12, u13, u14⟩ := bx2 x_r
        obtain ⟨u21, u22, u23, u24⟩ := bx2 x_b
        go_wp2_with fail
        refine (ndiv_calls rT1 rL1 t2 l2 _ i3.out.1.1 i3.out.1.2 i3.out.2.1 i3.out.2.2 I2.out.1.1 I2.out.1.2 I2.out.2.1 I2.out.2.2).mono ?_
        rintro e wk5 ⟨he, hB5⟩
        clear u11 u12 u13 u14 u21 u22 u23 u24
        have VL := f_div okr.out.1.1 okr.out.1.2 okr.out.2.1 okr.out.2.2 hz.out
        rw [VL.1, VL.2.1, VL.2.2] at he
        clear VL
        unfold NumR at he
        subst he
        replace x_a := blk_alloc (blk_below x_a hB5) (.cells #[.int .i64 t1, .int .i64 l1] 23)
        replace x_b := blk_alloc (blk_below x_b hB5) (.cells #[.int .i64 t1, .int .i64 l1] 23)
        replace x_c := blk_alloc (blk_below x_c hB5) (.cells #[.int .i64 t1, .int .i64 l1] 23)
        replace x_p := blk_alloc (blk_below x_p hB5) (.cells #[.int .i64 t1, .int .i64 l1] 23)
        replace x_q := blk_alloc (blk_below x_q hB5) (.cells #[.int .i64 t1, .int .i64 l1] 23)
        replace x_r := blk_alloc (blk_below x_r hB5) (.cells #[.int .i64 t1, .int .i64 l1] 23)
        replace x_s := blk_alloc (blk_below x_s hB5) (.cells #[.int .i64 t1, .int .i64 l1] 23)
        replace B0 := bl_alloc (bl_then B0 hB5) (.cells #[.int .i64 t1, .int .i64 l1] 23)
        have x_x : (wk5.alloc (.cells #[.int .i64 t1, .int .i64 l1] 23)).heap[wk5.heap.size]? = some (.cells #[.int .i64 t1, .int .i64 l1] 23 (0, 0)) := blk_at _ rfl
        have lt5 : g4 < wk5.heap.size := by
          have h1 := hB5.size
          have h2 := hmx
          omega
        clear hB5 hmx
        go_upto_region 25 with (fail)
        generalize hgs : wk5.heap.size = g5 at *
        generalize hgw : wk5.alloc (.cells #[.int .i64 t1, .int .i64 l1] 23) = wn5 at *
        have hmx : g5 < wn5.heap.size := by rw [← hgw, World.size_alloc, hgs]; omega
        clear hgs hgw
        obtain ⟨u11, u12, u13, u14⟩ := bx2 x_x
        obtain ⟨u21, u22, u23, u24⟩ := bx2 x_a
        go_upto_region 27 with (fail)
        clear u11 u12 u13 u14 u21 u22 u23 u24
        obtain ⟨u11, u12, u13, u14⟩ := bx2 x_r
        obtain ⟨u21, u22, u23, u24⟩ := bx2 x_c
        go_wp2_with fail
        refine (nmul_calls rT1 rL1 t3 l3 _ i3.out.1.1 i3.out.1.2 i3.out.2.1 i3.out.2.2 I3.out.1.1 I3.out.1.2 I3.out.2.1 I3.out.2.2).mono ?_
        rintro e wk6 ⟨he, hB6⟩
        clear u11 u12 u13 u14 u21 u22 u23 u24
        have i6 := Lib.hid (r_i64 (OkN rT1 rL1 ∧ OkN t3 l3) (Rat.divInt rT1 rL1 * Rat.divInt t3 l3))
        have ok6 := Lib.hid (fun h => @r_ok (OkN rT1 rL1 ∧ OkN t3 l3) _ (Rat.divInt rT1 rL1 * Rat.divInt t3 l3) h)
        generalize hgT : rT (OkN rT1 rL1 ∧ OkN t3 l3) (Rat.divInt rT1 rL1 * Rat.divInt t3 l3) = eT at *
        replace hgT : Hid (rT (OkN rT1 rL1 ∧ OkN t3 l3) (Rat.divInt rT1 rL1 * Rat.divInt t3 l3) = eT) := Lib.hid hgT
        generalize hgL : rL (OkN rT1 rL1 ∧ OkN t3 l3) (Rat.divInt rT1 rL1 * Rat.divInt t3 l3) = eL at *
        replace hgL : Hid (rL (OkN rT1 rL1 ∧ OkN t3 l3) (Rat.divInt rT1 rL1 * Rat.divInt t3 l3) = eL) := Lib.hid hgL
        generalize hgE : rE (OkN rT1 rL1 ∧ OkN t3 l3) (Rat.divInt rT1 rL1 * Rat.divInt t3 l3) = eE at *
        replace hgE : Hid (rE (OkN rT1 rL1 ∧ OkN t3 l3) (Rat.divInt rT1 rL1 * Rat.divInt t3 l3) = eE) := Lib.hid hgE
        have HG6T := hgT
        clear hgT
        have HG6L := hgL
        clear hgL
        have HG6E := hgE
        clear hgE
        unfold NumR at he
        subst he
        replace x_a := blk_alloc (blk_below x_a hB6) (.cells #[.int .i64 eT, .int .i64 eL] 23)
        replace x_b := blk_alloc (blk_below x_b hB6) (.cells #[.int .i64 eT, .int .i64 eL] 23)
        replace x_c := blk_alloc (blk_below x_c hB6) (.cells #[.int .i64 eT, .int .i64 eL] 23)
        replace x_p := blk_alloc (blk_below x_p hB6) (.cells #[.int .i64 eT, .int .i64 eL] 23)
        replace x_q := blk_alloc (blk_below x_q hB6) (.cells #[.int .i64 eT, .int .i64 eL] 23)
        replace x_r := blk_alloc (blk_below x_r hB6) (.cells #[.int .i64 eT, .int .i64 eL] 23)
        replace x_s := blk_alloc (blk_below x_s hB6) (.cells #[.int .i64 eT, .int .i64 eL] 23)
        replace x_x := blk_alloc (blk_below x_x hB6) (.cells #[.int .i64 eT, .int .i64 eL] 23)
        replace B0 := bl_alloc (bl_then B0 hB6) (.cells #[.int .i64 eT, .int .i64 eL] 23)
        have x_y1 : (wk6.alloc (.cells #[.int .i64 eT, .int .i64 eL] 23)).heap[wk6.heap.size]? = some (.cells #[.int .i64 eT, .int .i64 eL] 23 (0, 0)) := blk_at _ rfl
        have lt6 : g5 < wk6.heap.size := by
          have h1 := hB6.size
          have h2 := hmx
          omega
        clear hB6 hmx
        go_upto_region 28 with (fail)
        generalize hgs : wk6.heap.size = g6 at *
        generalize hgw : wk6.alloc (.cells #[.int .i64 eT, .int .i64 eL] 23) = wn6 at *
        have hmx : g6 < wn6.heap.size := by rw [← hgw, World.size_alloc, hgs]; omega
        clear hgs hgw
        obtain ⟨u11, u12, u13, u14⟩ := bx2 x_b
        obtain ⟨u21, u22, u23, u24⟩ := bx2 x_c
        go_wp2_with fail
        refine (nmul_calls t2 l2 t3 l3 _ I2.out.1.1 I2.out.1.2 I2.out.2.1 I2.out.2.2 I3.out.1.1 I3.out.1.2 I3.out.2.1 I3.out.2.2).mono ?_
        rintro e wk7 ⟨he, hB7⟩
        clear u11 u12 u13 u14 u21 u22 u23 u24
        have i7 := Lib.hid (r_i64 (OkN t2 l2 ∧ OkN t3 l3) (Rat.divInt t2 l2 * Rat.divInt t3 l3))
        have ok7 := Lib.hid (fun h => @r_ok (OkN t2 l2 ∧ OkN t3 l3) _ (Rat.divInt t2 l2 * Rat.divInt t3 l3) h)
        generalize hgT : rT (OkN t2 l2 ∧ OkN t3 l3) (Rat.divInt t2 l2 * Rat.divInt t3 l3) = fT at *
        replace hgT : Hid (rT (OkN t2 l2 ∧ OkN t3 l3) (Rat.divInt t2 l2 * Rat.divInt t3 l3) = fT) := Lib.hid hgT
        generalize hgL : rL (OkN t2 l2 ∧ OkN t3 l3) (Rat.divInt t2 l2 * Rat.divInt t3 l3) = fL at *
        replace hgL : Hid (rL (OkN t2 l2 ∧ OkN t3 l3) (Rat.divInt t2 l2 * Rat.divInt t3 l3) = fL) := Lib.hid hgL
        generalize hgE : rE (OkN t2 l2 ∧ OkN t3 l3) (Rat.divInt t2 l2 * Rat.divInt t3 l3) = fE at *
        replace hgE : Hid (rE (OkN t2 l2 ∧ OkN t3 l3) (Rat.divInt t2 l2 * Rat.divInt t3 l3) = fE) := Lib.hid hgE
        have HG7T := hgT
        clear hgT
        have HG7L := hgL
        clear hgL
        have HG7E := hgE
        clear hgE
        unfold NumR at he
        subst he
        replace x_a := blk_alloc (blk_below x_a hB7) (.cells #[.int .i64 fT, .int .i64 fL] 23)
        replace x_b := blk_alloc (blk_below x_b hB7) (.cells #[.int .i64 fT, .int .i64 fL] 23)
        replace x_c := blk_alloc (blk_below x_c hB7) (.cells #[.int .i64 fT, .int .i64 fL] 23)
        replace x_p := blk_alloc (blk_below x_p hB7) (.cells #[.int .i64 fT, .int .i64 fL] 23)
        replace x_q := blk_alloc (blk_below x_q hB7) (.cells #[.int .i64 fT, .int .i64 fL] 23)
        replace x_r := blk_alloc (blk_below x_r hB7) (.cells #[.int .i64 fT, .int .i64 fL] 23)
        replace x_s := blk_alloc (blk_below x_s hB7) (.cells #[.int .i64 fT, .int .i64 fL] 23)
        replace x_x := blk_alloc (blk_below x_x hB7) (.cells #[.int .i64 fT, .int .i64 fL] 23)
        replace x_y1 := blk_alloc (blk_below x_y1 hB7) (.cells #[.int .i64 fT, .int .i64 fL] 23)
        replace B0 := bl_alloc (bl_then B0 hB7) (.cells #[.int .i64 fT, .int .i64 fL] 23)
        have x_y2 : (wk7.alloc (.cells #[.int .i64 fT, .int .i64 fL] 23)).heap[wk7.heap.size]? = some (.cells #[.int .i64 fT, .int .i64 fL] 23 (0, 0)) := blk_at _ rfl
        have lt7 : g6 < wk7.heap.size := by
          have h1 := hB7.size
          have h2 := hmx
          omega
        clear hB7 hmx
        go_upto_region 29 with (fail)
        generalize hgs : wk7.heap.size = g7 at *
        generalize hgw : wk7.alloc (.cells #[.int .i64 fT, .int .i64 fL] 23) = wn7 at *
        have hmx : g7 < wn7.heap.size := by rw [← hgw, World.size_alloc, hgs]; omega
        clear hgs hgw
        obtain ⟨u11, u12, u13, u14⟩ := bx2 x_a
        obtain ⟨u21, u22, u23, u24⟩ := bx2 x_y2
        go_wp2_with fail
        refine (nmul_calls t1 l1 fT fL _ I1.out.1.1 I1.out.1.2 I1.out.2.1 I1.out.2.2 i7.out.1.1 i7.out.1.2 i7.out.2.1 i7.out.2.2).mono ?_
        rintro e wk8 ⟨he, hB8⟩
        clear u11 u12 u13 u14 u21 u22 u23 u24
        have i8 := Lib.hid (r_i64 (OkN t1 l1 ∧ OkN fT fL) (Rat.divInt t1 l1 * Rat.divInt fT fL))
        have ok8 := Lib.hid (fun h => @r_ok (OkN t1 l1 ∧ OkN fT fL) _ (Rat.divInt t1 l1 * Rat.divInt fT fL) h)
        generalize hgT : rT (OkN t1 l1 ∧ OkN fT fL) (Rat.divInt t1 l1 * Rat.divInt fT fL) = hT at *
        replace hgT : Hid (rT (OkN t1 l1 ∧ OkN fT fL) (Rat.divInt t1 l1 * Rat.divInt fT fL) = hT) := Lib.hid hgT
        generalize hgL : rL (OkN t1 l1 ∧ OkN fT fL) (Rat.divInt t1 l1 * Rat.divInt fT fL) = hL at *
        replace hgL : Hid (rL (OkN t1 l1 ∧ OkN fT fL) (Rat.divInt t1 l1 * Rat.divInt fT fL) = hL) := Lib.hid hgL
        generalize hgE : rE (OkN t1 l1 ∧ OkN fT fL) (Rat.divInt t1 l1 * Rat.divInt fT fL) = hE at *
        replace hgE : Hid (rE (OkN t1 l1 ∧ OkN fT fL) (Rat.divInt t1 l1 * Rat.divInt fT fL) = hE) := Lib.hid hgE
        have HG8T := hgT
        clear hgT
        have HG8L := hgL
        clear hgL
        have HG8E := hgE
        clear hgE
        unfold NumR at he
        subst he
        replace x_a := blk_alloc (blk_below x_a hB8) (.cells #[.int .i64 hT, .int .i64 hL] 23)
        replace x_b := blk_alloc (blk_below x_b hB8) (.cells #[.int .i64 hT, .int .i64 hL] 23)
        replace x_c := blk_alloc (blk_below x_c hB8) (.cells #[.int .i64 hT, .int .i64 hL] 23)
        replace x_p := blk_alloc (blk_below x_p hB8) (.cells #[.int .i64 hT, .int .i64 hL] 23)
        replace x_q := blk_alloc (blk_below x_q hB8) (.cells #[.int .i64 hT, .int .i64 hL] 23)
        replace x_r := blk_alloc (blk_below x_r hB8) (.cells #[.int .i64 hT, .int .i64 hL] 23)
        replace x_s := blk_alloc (blk_below x_s hB8) (.cells #[.int .i64 hT, .int .i64 hL] 23)
        replace x_x := blk_alloc (blk_below x_x hB8) (.cells #[.int .i64 hT, .int .i64 hL] 23)
        replace x_y1 := blk_alloc (blk_below x_y1 hB8) (.cells #[.int .i64 hT, .int .i64 hL] 23)
        replace x_y2 := blk_alloc (blk_below x_y2 hB8) (.cells #[.int .i64 hT, .int .i64 hL] 23)
        replace B0 := bl_alloc (bl_then B0 hB8) (.cells #[.int .i64 hT, .int .i64 hL] 23)
        have x_y3 : (wk8.alloc (.cells #[.int .i64 hT, .int .i64 hL] 23)).heap[wk8.heap.size]? = some (.cells #[.int .i64 hT, .int .i64 hL] 23 (0, 0)) := blk_at _ rfl
        have lt8 : g7 < wk8.heap.size := by
          have h1 := hB8.size
          have h2 := hmx
          omega
        clear hB8 hmx
        go_upto_region 30 with (fail)
        generalize hgs : wk8.heap.size = g8 at *
        generalize hgw : wk8.alloc (.cells #[.int .i64 hT, .int .i64 hL] 23) = wn8 at *
        have hmx : g8 < wn8.heap.size := by rw [← hgw, World.size_alloc, hgs]; omega
        clear hgs hgw
        by_cases c1 : eE = 0
        · have n1 : (eE != 0) = false := by simp [c1]
          by_cases c2 : fE = 0
          · have n2 : (fE != 0) = false := by simp [c2]
            by_cases c3 : hE = 0
            · have n3 : (hE != 0) = false := by simp [c3]
              have EQ := ok_inj (ok6.out c1).2.1 (ok8.out c3).2.1 (by rw [(ok6.out c1).2.2, (ok8.out c3).2.2, (ok7.out c2).2.2, okr.out.2.2, Rat.mul_assoc])
              obtain ⟨e1, e2⟩ := EQ
              replace c1 := Lib.hid c1
              replace c2 := Lib.hid c2
              replace c3 := Lib.hid c3
              rw [e1, e2] at x_y1
              replace e1 := Lib.hid e1
              replace e2 := Lib.hid e2
              obtain ⟨u11, u12, u13, u14⟩ := bx2 x_y1
              obtain ⟨u21, u22, u23, u24⟩ := bx2 x_y3
              go_wp2_with fail
              refine (awake_calls _).mono ?_
              rintro e wz ⟨rfl, hBz⟩
              go_wp2
              go_ret
              exact ⟨rfl, bl_then B0 hBz⟩
            · have n3 : (hE != 0) = true := by simp [c3]
              replace c3 : Hid (¬ hE = 0) := Lib.hid c3
              replace c1 := Lib.hid c1
              replace c2 := Lib.hid c2
              go_wp2_with fail
              refine (awake_calls _).mono ?_
              rintro e wz ⟨rfl, hBz⟩
              go_wp2
              go_ret
              exact ⟨rfl, bl_then B0 hBz⟩
          · have n2 : (fE != 0) = true := by simp [c2]
            replace c2 : Hid (¬ fE = 0) := Lib.hid c2
            replace c1 := Lib.hid c1
            go_wp2_with fail
            refine (awake_calls _).mono ?_
            rintro e wz ⟨rfl, hBz⟩
            go_wp2
            go_ret
            exact ⟨rfl, bl_then B0 hBz⟩
        · have n1 : (eE != 0) = true := by simp [c1]
          replace c1 : Hid (¬ eE = 0) := Lib.hid c1
          go_wp2_with fail
          refine (awake_calls _).mono ?_
          rintro e wz ⟨rfl, hBz⟩
          go_wp2
          go_ret
          exact ⟨rfl, bl_then B0 hBz⟩
    · have hgb : (rE1 != 0) = true := by simp [hg]
      replace hg : Hid (¬ rE1 = 0) := Lib.hid hg
      go_wp2_with fail
      refine (awake_calls _).mono ?_
      rintro e wz ⟨rfl, hBz⟩
      go_wp2
      go_ret
      exact ⟨rfl, bl_then B0 hBz⟩
end Go.Proofs.Ytijdnlkojflnkaa
