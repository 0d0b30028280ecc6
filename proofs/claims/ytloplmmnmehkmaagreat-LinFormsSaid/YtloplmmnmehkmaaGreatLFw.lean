/- LinForms: the walk. -/
import Derived.Test.YtloplmmnmehkmaaGreatRefA
set_option linter.unusedVariables false
set_option linter.unusedSimpArgs false
namespace Go.Proofs.YtloplmmnmehkmaaGreat
open Go.RowKit

set_option maxHeartbeats 400000000
set_option maxRecDepth 100000
theorem linforms_walk (n : Int) (A : Option Addr) (m c : Nat) (f : Fm) (A' : Option Addr) (m' c' : Nat) (x : List (Int × Int)) (w : World) (h : RdC w A m f.1) (h' : RdN w A' m' x) (hf : I64F f) (hx : I64s x) :
    Calls Tryz.prog 8 #[.int .i64 n, .agg #[.slice A m c, .int .i64 f.2], .slice A' m' c'] w fun e w' => e = .returned (.bool true) ∧ Below w.heap.size w w' := by
  have hm := h.2.1
  have hm' := h'.2.1
  obtain ⟨vT, hvT⟩ : ∃ v, valT n f x = v := ⟨_, rfl⟩
  obtain ⟨vL, hvL⟩ : ∃ v, valL n f x = v := ⟨_, rfl⟩
  obtain ⟨vE, hvE⟩ : ∃ v, valE n f x = v := ⟨_, rfl⟩
  obtain ⟨F9, hF9⟩ : ∃ v, prmF n f = v := ⟨_, rfl⟩
  obtain ⟨pE, hpE⟩ : ∃ v, prmE n f = v := ⟨_, rfl⟩
  have HT := Lib.hid hvT
  have HL := Lib.hid hvL
  have HE := Lib.hid hvE
  have HF := Lib.hid hF9
  have HP := Lib.hid hpE
  clear hvT hvL hvE hF9 hpE
  go_enter Tryz.func8, Tryz.ntmps8
  have xf0 : ((w.alloc (.cells #[.slice A m c, .int .i64 f.2] 44)).alloc (.cells #[.slice A m c, .int .i64 f.2] 44)).heap[w.heap.size]? = some (.cells #[.slice A m c, .int .i64 f.2] 44 (0, 0)) := blk_alloc (blk_at _ rfl) _
  have xg0 : ((w.alloc (.cells #[.slice A m c, .int .i64 f.2] 44)).alloc (.cells #[.slice A m c, .int .i64 f.2] 44)).heap[w.heap.size + 1]? = some (.cells #[.slice A m c, .int .i64 f.2] 44 (0, 0)) := blk_at _ (by simp)
  have B0 := bl_alloc (bl_alloc (Below.refl w.heap.size w) (.cells #[.slice A m c, .int .i64 f.2] 44)) (.cells #[.slice A m c, .int .i64 f.2] 44)
  go_wp2_with fail
  refine (lfew1_calls A m c f _ 1 _ xg0 hm).mono ?_
  rintro e w1 ⟨he, hB1⟩
  replace B0 := bl_then B0 hB1
  have xf := blk_below xf0 hB1
  clear xf0 xg0 hB1
  by_cases h40 : m ≤ 40
  · rw [decide_eq_true h40] at he
    subst he
    by_cases x40 : m' ≤ 40
    · have d1 : ¬ (40 : Int) < (m' : Int) := by omega
      have d2 : decide ((40 : Int) < (m' : Int)) = false := decide_eq_false d1
      obtain ⟨f1, f2, f3, f4⟩ := bx2 xf
      go_wp2_with fail
      refine (lvalue_calls n A m c f A' m' c' x _ (h.below B0) (h'.below B0) hf hx).mono ?_
      rintro e w2 ⟨he, hB⟩
      rw [HT.out, HL.out, HE.out] at he
      unfold NumR at he
      subst he
      replace xf := blk_alloc (blk_below xf hB) (.cells #[.int .i64 vT, .int .i64 vL] 56)
      replace B0 := bl_alloc (bl_then B0 hB) (.cells #[.int .i64 vT, .int .i64 vL] 56)
      have x7 : (w2.alloc (.cells #[.int .i64 vT, .int .i64 vL] 56)).heap[w2.heap.size]? = some (.cells #[.int .i64 vT, .int .i64 vL] 56 (0, 0)) := blk_at _ rfl
      clear f1 f2 f3 f4 hB
      go_upto_region 4 with (fail)
      generalize w2.heap.size = g7 at *
      generalize w2.alloc (.cells #[.int .i64 vT, .int .i64 vL] 56) = W2 at *
      obtain ⟨f1, f2, f3, f4⟩ := bx2 xf
      go_wp2_with fail
      refine (r2value_calls n A m c f A' m' c' x _ (h.below B0) (h'.below B0) hf hx).mono ?_
      rintro e w3 ⟨he, hB⟩
      rw [HT.out, HL.out, HE.out] at he
      unfold NumR at he
      subst he
      replace xf := blk_alloc (blk_below xf hB) (.cells #[.int .i64 vT, .int .i64 vL] 56)
      replace x7 := blk_alloc (blk_below x7 hB) (.cells #[.int .i64 vT, .int .i64 vL] 56)
      replace B0 := bl_alloc (bl_then B0 hB) (.cells #[.int .i64 vT, .int .i64 vL] 56)
      have x9 : (w3.alloc (.cells #[.int .i64 vT, .int .i64 vL] 56)).heap[w3.heap.size]? = some (.cells #[.int .i64 vT, .int .i64 vL] 56 (0, 0)) := blk_at _ rfl
      clear f1 f2 f3 f4 hB
      go_upto_region 5 with (fail)
      generalize w3.heap.size = g9 at *
      generalize w3.alloc (.cells #[.int .i64 vT, .int .i64 vL] 56) = W3 at *
      obtain ⟨f1, f2, f3, f4⟩ := bx2 xf
      go_wp2_with fail
      refine (lprim_calls n A m c f _ (h.below B0) hf).mono ?_
      rintro e w4 ⟨⟨v4, he, hfm⟩, hB⟩
      rw [HP.out] at he
      rw [HF.out] at hfm
      subst he
      obtain ⟨Ap, np, cp, rfl, rp⟩ := hfm
      replace xf := blk_alloc (blk_below xf hB) (.cells #[.slice Ap np cp, .int .i64 F9.2] 44)
      replace x7 := blk_alloc (blk_below x7 hB) (.cells #[.slice Ap np cp, .int .i64 F9.2] 44)
      replace x9 := blk_alloc (blk_below x9 hB) (.cells #[.slice Ap np cp, .int .i64 F9.2] 44)
      replace rp := rp.below (bl_alloc (Below.refl _ _) (.cells #[.slice Ap np cp, .int .i64 F9.2] 44))
      replace B0 := bl_alloc (bl_then B0 hB) (.cells #[.slice Ap np cp, .int .i64 F9.2] 44)
      have xp : (w4.alloc (.cells #[.slice Ap np cp, .int .i64 F9.2] 44)).heap[w4.heap.size]? = some (.cells #[.slice Ap np cp, .int .i64 F9.2] 44 (0, 0)) := blk_at _ rfl
      clear f1 f2 f3 f4 hB
      go_upto_region 6 with (fail)
      generalize w4.heap.size = g11 at *
      generalize w4.alloc (.cells #[.slice Ap np cp, .int .i64 F9.2] 44) = W4 at *
      obtain ⟨f1, f2, f3, f4⟩ := bx2 xf
      go_wp2_with fail
      refine (r2prim_calls n A m c f _ (h.below B0) hf).mono ?_
      rintro e w5 ⟨⟨v5, he, hfm⟩, hB⟩
      rw [HP.out] at he
      rw [HF.out] at hfm
      subst he
      obtain ⟨Aq, nq, cq, rfl, rq⟩ := hfm
      have hpq : np = nq := by rw [← rp.1, ← rq.1]
      replace xf := blk_alloc (blk_below xf hB) (.cells #[.slice Aq nq cq, .int .i64 F9.2] 44)
      replace x7 := blk_alloc (blk_below x7 hB) (.cells #[.slice Aq nq cq, .int .i64 F9.2] 44)
      replace x9 := blk_alloc (blk_below x9 hB) (.cells #[.slice Aq nq cq, .int .i64 F9.2] 44)
      replace xp := blk_alloc (blk_below xp hB) (.cells #[.slice Aq nq cq, .int .i64 F9.2] 44)
      replace rp := rp.below (bl_alloc hB (.cells #[.slice Aq nq cq, .int .i64 F9.2] 44))
      replace rq := rq.below (bl_alloc (Below.refl _ _) (.cells #[.slice Aq nq cq, .int .i64 F9.2] 44))
      replace B0 := bl_alloc (bl_then B0 hB) (.cells #[.slice Aq nq cq, .int .i64 F9.2] 44)
      have xq : (w5.alloc (.cells #[.slice Aq nq cq, .int .i64 F9.2] 44)).heap[w5.heap.size]? = some (.cells #[.slice Aq nq cq, .int .i64 F9.2] 44 (0, 0)) := blk_at _ rfl
      clear f1 f2 f3 f4 hB
      go_upto_region 7 with (fail)
      generalize w5.heap.size = g13 at *
      generalize w5.alloc (.cells #[.slice Aq nq cq, .int .i64 F9.2] 44) = W9 at *
      subst hpq
      obtain ⟨bX, hbX⟩ : ∃ b, decide (OkX n x) = b := ⟨_, rfl⟩
      obtain ⟨bF, hbF⟩ : ∃ b, decide (OkF n f) = b := ⟨_, rfl⟩
      have HBX := Lib.hid hbX
      have HBF := Lib.hid hbF
      clear hbX hbF HT HL HE HF HP
      have xf_0 := xf
      have x7_0 := x7
      have x9_0 := x9
      have xp_0 := xp
      have xq_0 := xq
      have HB_0 := B0
      have HW_0 := Below.refl W9.heap.size W9
      cases bX <;> cases bF
      all_goals
        go_region_held3 (fun W => W.cell? ⟨w.heap.size, 0, none⟩ = some (Value.slice A m c) ∧ W.cell? ⟨w.heap.size, 1, none⟩ = some (Value.int .i64 f.2) ∧ W.cell? ⟨g7, 0, none⟩ = some (Value.int .i64 vT) ∧ W.cell? ⟨g7, 1, none⟩ = some (Value.int .i64 vL) ∧ W.cell? ⟨g9, 0, none⟩ = some (Value.int .i64 vT) ∧ W.cell? ⟨g9, 1, none⟩ = some (Value.int .i64 vL) ∧ W.cell? ⟨g11, 0, none⟩ = some (Value.slice Ap np cp) ∧ W.cell? ⟨g11, 1, none⟩ = some (Value.int .i64 F9.2) ∧ W.cell? ⟨g13, 0, none⟩ = some (Value.slice Aq np cq) ∧ W.cell? ⟨g13, 1, none⟩ = some (Value.int .i64 F9.2)) (first | with_reducible exact P6 | with_reducible exact P5 | with_reducible exact P4 | with_reducible exact P3 | with_reducible exact P2 | with_reducible exact P1 | with_reducible exact (j2 (cx2 (blk_drew xf_0)) (j2 (cx2 (blk_drew x7_0)) (j2 (cx2 (blk_drew x9_0)) (j2 (cx2 (blk_drew xp_0)) (cx2 (blk_drew xq_0)))))) | go_keep) (first | (have _hh := HB_5; go_at_call 10; refine (lawake_calls _).mono ?_; rintro e ww6 ⟨rfl, hB6⟩; skip; have xf_6 : ww6.heap[w.heap.size]? = some (.cells #[.slice A m c, .int .i64 f.2] 44 (0, 0)) := (by repeat (first | with_reducible exact xf_5 | with_reducible refine blk_below ?_ hB6 | with_reducible refine blk_drew ?_)); have x7_6 : ww6.heap[g7]? = some (.cells #[.int .i64 vT, .int .i64 vL] 56 (0, 0)) := (by repeat (first | with_reducible exact x7_5 | with_reducible refine blk_below ?_ hB6 | with_reducible refine blk_drew ?_)); have x9_6 : ww6.heap[g9]? = some (.cells #[.int .i64 vT, .int .i64 vL] 56 (0, 0)) := (by repeat (first | with_reducible exact x9_5 | with_reducible refine blk_below ?_ hB6 | with_reducible refine blk_drew ?_)); have xp_6 : ww6.heap[g11]? = some (.cells #[.slice Ap np cp, .int .i64 F9.2] 44 (0, 0)) := (by repeat (first | with_reducible exact xp_5 | with_reducible refine blk_below ?_ hB6 | with_reducible refine blk_drew ?_)); have xq_6 : ww6.heap[g13]? = some (.cells #[.slice Aq np cq, .int .i64 F9.2] 44 (0, 0)) := (by repeat (first | with_reducible exact xq_5 | with_reducible refine blk_below ?_ hB6 | with_reducible refine blk_drew ?_)); have HB_6 : Below w.heap.size w ww6 := (by repeat (first | with_reducible exact HB_5 | with_reducible refine bl_then ?_ hB6 | with_reducible refine bl_drew ?_)); have HW_6 : Below W9.heap.size W9 ww6 := (by repeat (first | with_reducible exact HW_5 | with_reducible refine bl_then ?_ hB6 | with_reducible refine bl_drew ?_)); have P6 := j2 (cx2 (xf_6)) (j2 (cx2 (x7_6)) (j2 (cx2 (x9_6)) (j2 (cx2 (xp_6)) (cx2 (xq_6)))))) | (have _hh := HB_4; go_at_call 25; refine (lsform_calls Ap np cp Aq cq F9 _ ((RdI.toC rp).below HW_4) ((RdI.toC rq).below HW_4)).mono ?_; rintro e ww5 ⟨rfl, hB5⟩; skip; have xf_5 : ww5.heap[w.heap.size]? = some (.cells #[.slice A m c, .int .i64 f.2] 44 (0, 0)) := (by repeat (first | with_reducible exact xf_4 | with_reducible refine blk_below ?_ hB5 | with_reducible refine blk_drew ?_)); have x7_5 : ww5.heap[g7]? = some (.cells #[.int .i64 vT, .int .i64 vL] 56 (0, 0)) := (by repeat (first | with_reducible exact x7_4 | with_reducible refine blk_below ?_ hB5 | with_reducible refine blk_drew ?_)); have x9_5 : ww5.heap[g9]? = some (.cells #[.int .i64 vT, .int .i64 vL] 56 (0, 0)) := (by repeat (first | with_reducible exact x9_4 | with_reducible refine blk_below ?_ hB5 | with_reducible refine blk_drew ?_)); have xp_5 : ww5.heap[g11]? = some (.cells #[.slice Ap np cp, .int .i64 F9.2] 44 (0, 0)) := (by repeat (first | with_reducible exact xp_4 | with_reducible refine blk_below ?_ hB5 | with_reducible refine blk_drew ?_)); have xq_5 : ww5.heap[g13]? = some (.cells #[.slice Aq np cq, .int .i64 F9.2] 44 (0, 0)) := (by repeat (first | with_reducible exact xq_4 | with_reducible refine blk_below ?_ hB5 | with_reducible refine blk_drew ?_)); have HB_5 : Below w.heap.size w ww5 := (by repeat (first | with_reducible exact HB_4 | with_reducible refine bl_then ?_ hB5 | with_reducible refine bl_drew ?_)); have HW_5 : Below W9.heap.size W9 ww5 := (by repeat (first | with_reducible exact HW_4 | with_reducible refine bl_then ?_ hB5 | with_reducible refine bl_drew ?_)); have P5 := j2 (cx2 (xf_5)) (j2 (cx2 (x7_5)) (j2 (cx2 (x9_5)) (j2 (cx2 (xp_5)) (cx2 (xq_5)))))) | (have _hh := HB_3; go_at_call 41; refine (r2vform_calls n A m c f _ (h.below HB_3)).mono ?_; rintro e ww4 ⟨he, hB4⟩; rw [HBF.out] at he; subst he; have xf_4 : ww4.heap[w.heap.size]? = some (.cells #[.slice A m c, .int .i64 f.2] 44 (0, 0)) := (by repeat (first | with_reducible exact xf_3 | with_reducible refine blk_below ?_ hB4 | with_reducible refine blk_drew ?_)); have x7_4 : ww4.heap[g7]? = some (.cells #[.int .i64 vT, .int .i64 vL] 56 (0, 0)) := (by repeat (first | with_reducible exact x7_3 | with_reducible refine blk_below ?_ hB4 | with_reducible refine blk_drew ?_)); have x9_4 : ww4.heap[g9]? = some (.cells #[.int .i64 vT, .int .i64 vL] 56 (0, 0)) := (by repeat (first | with_reducible exact x9_3 | with_reducible refine blk_below ?_ hB4 | with_reducible refine blk_drew ?_)); have xp_4 : ww4.heap[g11]? = some (.cells #[.slice Ap np cp, .int .i64 F9.2] 44 (0, 0)) := (by repeat (first | with_reducible exact xp_3 | with_reducible refine blk_below ?_ hB4 | with_reducible refine blk_drew ?_)); have xq_4 : ww4.heap[g13]? = some (.cells #[.slice Aq np cq, .int .i64 F9.2] 44 (0, 0)) := (by repeat (first | with_reducible exact xq_3 | with_reducible refine blk_below ?_ hB4 | with_reducible refine blk_drew ?_)); have HB_4 : Below w.heap.size w ww4 := (by repeat (first | with_reducible exact HB_3 | with_reducible refine bl_then ?_ hB4 | with_reducible refine bl_drew ?_)); have HW_4 : Below W9.heap.size W9 ww4 := (by repeat (first | with_reducible exact HW_3 | with_reducible refine bl_then ?_ hB4 | with_reducible refine bl_drew ?_)); have P4 := j2 (cx2 (xf_4)) (j2 (cx2 (x7_4)) (j2 (cx2 (x9_4)) (j2 (cx2 (xp_4)) (cx2 (xq_4)))))) | (have _hh := HB_2; go_at_call 40; refine (validform_calls n A m c f _ (h.below HB_2)).mono ?_; rintro e ww3 ⟨he, hB3⟩; rw [HBF.out] at he; subst he; have xf_3 : ww3.heap[w.heap.size]? = some (.cells #[.slice A m c, .int .i64 f.2] 44 (0, 0)) := (by repeat (first | with_reducible exact xf_2 | with_reducible refine blk_below ?_ hB3 | with_reducible refine blk_drew ?_)); have x7_3 : ww3.heap[g7]? = some (.cells #[.int .i64 vT, .int .i64 vL] 56 (0, 0)) := (by repeat (first | with_reducible exact x7_2 | with_reducible refine blk_below ?_ hB3 | with_reducible refine blk_drew ?_)); have x9_3 : ww3.heap[g9]? = some (.cells #[.int .i64 vT, .int .i64 vL] 56 (0, 0)) := (by repeat (first | with_reducible exact x9_2 | with_reducible refine blk_below ?_ hB3 | with_reducible refine blk_drew ?_)); have xp_3 : ww3.heap[g11]? = some (.cells #[.slice Ap np cp, .int .i64 F9.2] 44 (0, 0)) := (by repeat (first | with_reducible exact xp_2 | with_reducible refine blk_below ?_ hB3 | with_reducible refine blk_drew ?_)); have xq_3 : ww3.heap[g13]? = some (.cells #[.slice Aq np cq, .int .i64 F9.2] 44 (0, 0)) := (by repeat (first | with_reducible exact xq_2 | with_reducible refine blk_below ?_ hB3 | with_reducible refine blk_drew ?_)); have HB_3 : Below w.heap.size w ww3 := (by repeat (first | with_reducible exact HB_2 | with_reducible refine bl_then ?_ hB3 | with_reducible refine bl_drew ?_)); have HW_3 : Below W9.heap.size W9 ww3 := (by repeat (first | with_reducible exact HW_2 | with_reducible refine bl_then ?_ hB3 | with_reducible refine bl_drew ?_)); have P3 := j2 (cx2 (xf_3)) (j2 (cx2 (x7_3)) (j2 (cx2 (x9_3)) (j2 (cx2 (xp_3)) (cx2 (xq_3)))))) | (have _hh := HB_1; go_at_call 21; refine (r2vpoint_calls n A' m' c' x _ (h'.below HB_1) hx).mono ?_; rintro e ww2 ⟨he, hB2⟩; rw [HBX.out] at he; subst he; have xf_2 : ww2.heap[w.heap.size]? = some (.cells #[.slice A m c, .int .i64 f.2] 44 (0, 0)) := (by repeat (first | with_reducible exact xf_1 | with_reducible refine blk_below ?_ hB2 | with_reducible refine blk_drew ?_)); have x7_2 : ww2.heap[g7]? = some (.cells #[.int .i64 vT, .int .i64 vL] 56 (0, 0)) := (by repeat (first | with_reducible exact x7_1 | with_reducible refine blk_below ?_ hB2 | with_reducible refine blk_drew ?_)); have x9_2 : ww2.heap[g9]? = some (.cells #[.int .i64 vT, .int .i64 vL] 56 (0, 0)) := (by repeat (first | with_reducible exact x9_1 | with_reducible refine blk_below ?_ hB2 | with_reducible refine blk_drew ?_)); have xp_2 : ww2.heap[g11]? = some (.cells #[.slice Ap np cp, .int .i64 F9.2] 44 (0, 0)) := (by repeat (first | with_reducible exact xp_1 | with_reducible refine blk_below ?_ hB2 | with_reducible refine blk_drew ?_)); have xq_2 : ww2.heap[g13]? = some (.cells #[.slice Aq np cq, .int .i64 F9.2] 44 (0, 0)) := (by repeat (first | with_reducible exact xq_1 | with_reducible refine blk_below ?_ hB2 | with_reducible refine blk_drew ?_)); have HB_2 : Below w.heap.size w ww2 := (by repeat (first | with_reducible exact HB_1 | with_reducible refine bl_then ?_ hB2 | with_reducible refine bl_drew ?_)); have HW_2 : Below W9.heap.size W9 ww2 := (by repeat (first | with_reducible exact HW_1 | with_reducible refine bl_then ?_ hB2 | with_reducible refine bl_drew ?_)); have P2 := j2 (cx2 (xf_2)) (j2 (cx2 (x7_2)) (j2 (cx2 (x9_2)) (j2 (cx2 (xp_2)) (cx2 (xq_2)))))) | (go_at_call 39; refine (validpoint_calls n A' m' c' x _ (by first | exact h'.below HB_0 | exact h'.below (bl_drew HB_0)) hx).mono ?_; rintro e ww1 ⟨he, hB1⟩; rw [HBX.out] at he; subst he; have xf_1 : ww1.heap[w.heap.size]? = some (.cells #[.slice A m c, .int .i64 f.2] 44 (0, 0)) := (by repeat (first | with_reducible exact xf_0 | with_reducible refine blk_below ?_ hB1 | with_reducible refine blk_drew ?_)); have x7_1 : ww1.heap[g7]? = some (.cells #[.int .i64 vT, .int .i64 vL] 56 (0, 0)) := (by repeat (first | with_reducible exact x7_0 | with_reducible refine blk_below ?_ hB1 | with_reducible refine blk_drew ?_)); have x9_1 : ww1.heap[g9]? = some (.cells #[.int .i64 vT, .int .i64 vL] 56 (0, 0)) := (by repeat (first | with_reducible exact x9_0 | with_reducible refine blk_below ?_ hB1 | with_reducible refine blk_drew ?_)); have xp_1 : ww1.heap[g11]? = some (.cells #[.slice Ap np cp, .int .i64 F9.2] 44 (0, 0)) := (by repeat (first | with_reducible exact xp_0 | with_reducible refine blk_below ?_ hB1 | with_reducible refine blk_drew ?_)); have xq_1 : ww1.heap[g13]? = some (.cells #[.slice Aq np cq, .int .i64 F9.2] 44 (0, 0)) := (by repeat (first | with_reducible exact xq_0 | with_reducible refine blk_below ?_ hB1 | with_reducible refine blk_drew ?_)); have HB_1 : Below w.heap.size w ww1 := (by repeat (first | with_reducible exact HB_0 | with_reducible refine bl_then ?_ hB1 | with_reducible refine bl_drew ?_)); have HW_1 : Below W9.heap.size W9 ww1 := (by repeat (first | with_reducible exact HW_0 | with_reducible refine bl_then ?_ hB1 | with_reducible refine bl_drew ?_)); have P1 := j2 (cx2 (xf_1)) (j2 (cx2 (x7_1)) (j2 (cx2 (x9_1)) (j2 (cx2 (xp_1)) (cx2 (xq_1)))))) | fail)
        all_goals
          go_wp2
          go_ret
          exact ⟨rfl, HB_6⟩
    · have d1 : (40 : Int) < (m' : Int) := by omega
      go_wp2_with fail
      refine (lawake_calls _).mono ?_
      rintro e w2 ⟨rfl, hB2⟩
      have B1 := bl_then B0 hB2
      go_wp2
      go_ret
      exact ⟨rfl, B1⟩
  · rw [decide_eq_false h40] at he
    subst he
    go_wp2_with fail
    refine (lawake_calls _).mono ?_
    rintro e w2 ⟨rfl, hB2⟩
    have B1 := bl_then B0 hB2
    go_wp2
    go_ret
    exact ⟨rfl, B1⟩
end Go.Proofs.YtloplmmnmehkmaaGreat
