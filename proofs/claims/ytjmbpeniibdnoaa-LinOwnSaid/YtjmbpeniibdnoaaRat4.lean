/- exact: Sub, Cmp, Floor of rationals. -/
import Derived.Test.YtjmbpeniibdnoaaRat3
set_option linter.unusedVariables false
set_option linter.unusedSimpArgs false
namespace Go.Proofs.Ytjmbpeniibdnoaa
open Go.RowKit

theorem SzR.neg {k : Nat} {q : Rat} (h : SzR k q) : SzR k (-q) := ⟨by rw [Rat.neg_num]; exact h.1.neg, by rw [Rat.neg_den]; exact h.2⟩

set_option maxHeartbeats 8000000 in
set_option maxRecDepth 100000 in
theorem rsub_calls (v1 : Int) (A1 : Option Addr) (n1 c1 : Nat) (v1' : Int) (A1' : Option Addr) (n1' c1' : Nat) (q : Rat) (v2 : Int) (A2 : Option Addr) (n2 c2 : Nat) (v2' : Int) (A2' : Option Addr) (n2' c2' : Nat) (r : Rat) (w : World)
    (h1 : RatV w v1 A1 n1 c1 v1' A1' n1' c1' q) (h2 : RatV w v2 A2 n2 c2 v2' A2' n2' c2' r) (k : Nat) (s1 : SzR k q) (s2 : SzR k r) (hk : k ≤ 10000000000) :
    Calls Try.prog 82 #[.agg #[.int .i64 v1, .slice A1 n1 c1, .int .i64 v1', .slice A1' n1' c1'], .agg #[.int .i64 v2, .slice A2 n2 c2, .int .i64 v2', .slice A2' n2' c2']] w fun e w' => RatR e w' (q - r) ∧ Below w.heap.size w w' := by
  rw [Rat.sub_eq_add_neg]
  go_enter Try.func82, Try.ntmps82
  go_wp2_with fail
  have B3 := bl_alloc (bl_alloc (bl_alloc (Below.refl w.heap.size w) (.cells #[.int .i64 v1, .slice A1 n1 c1, .int .i64 v1', .slice A1' n1' c1'] 63)) (.cells #[.int .i64 v2, .slice A2 n2 c2, .int .i64 v2', .slice A2' n2' c2'] 63)) (.cells #[.int .i64 0, .slice none 0 0, .int .i64 0, .slice none 0 0] 63)
  have a1 : (((w.alloc (.cells #[.int .i64 v1, .slice A1 n1 c1, .int .i64 v1', .slice A1' n1' c1'] 63)).alloc (.cells #[.int .i64 v2, .slice A2 n2 c2, .int .i64 v2', .slice A2' n2' c2'] 63)).alloc (.cells #[.int .i64 0, .slice none 0 0, .int .i64 0, .slice none 0 0] 63)).heap[w.heap.size]? = some (.cells #[.int .i64 v1, .slice A1 n1 c1, .int .i64 v1', .slice A1' n1' c1'] 63 (0, 0)) := blk_alloc (blk_alloc (blk_at _ rfl) _) _
  have a2 : (((w.alloc (.cells #[.int .i64 v1, .slice A1 n1 c1, .int .i64 v1', .slice A1' n1' c1'] 63)).alloc (.cells #[.int .i64 v2, .slice A2 n2 c2, .int .i64 v2', .slice A2' n2' c2'] 63)).alloc (.cells #[.int .i64 0, .slice none 0 0, .int .i64 0, .slice none 0 0] 63)).heap[w.heap.size + 1]? = some (.cells #[.int .i64 v2, .slice A2 n2 c2, .int .i64 v2', .slice A2' n2' c2'] 63 (0, 0)) := blk_alloc (blk_at _ (by simp)) _
  have a3 : (((w.alloc (.cells #[.int .i64 v1, .slice A1 n1 c1, .int .i64 v1', .slice A1' n1' c1'] 63)).alloc (.cells #[.int .i64 v2, .slice A2 n2 c2, .int .i64 v2', .slice A2' n2' c2'] 63)).alloc (.cells #[.int .i64 0, .slice none 0 0, .int .i64 0, .slice none 0 0] 63)).heap[w.heap.size + 1 + 1]? = some (.cells #[.int .i64 0, .slice none 0 0, .int .i64 0, .slice none 0 0] 63 (0, 0)) := blk_at _ (by simp)
  replace h1 := h1.below B3
  replace h2 := h2.below B3
  generalize ((w.alloc (.cells #[.int .i64 v1, .slice A1 n1 c1, .int .i64 v1', .slice A1' n1' c1'] 63)).alloc (.cells #[.int .i64 v2, .slice A2 n2 c2, .int .i64 v2', .slice A2' n2' c2'] 63)).alloc (.cells #[.int .i64 0, .slice none 0 0, .int .i64 0, .slice none 0 0] 63) = W3 at *
  obtain ⟨⟨p1, p2, p3, p4⟩, p5, p6, p7, p8⟩ := bx4 a1
  obtain ⟨⟨q1, q2, q3, q4⟩, q5, q6, q7, q8⟩ := bx4 a2
  obtain ⟨⟨r1, r2, r3, r4⟩, r5, r6, r7, r8⟩ := bx4 a3
  go_region_held3 (fun W => W.cell? ⟨w.heap.size, 0, none⟩ = some (.int .i64 v1) ∧ W.cell? ⟨w.heap.size, 1, none⟩ = some (.slice A1 n1 c1) ∧ W.cell? ⟨w.heap.size, 2, none⟩ = some (.int .i64 v1') ∧ W.cell? ⟨w.heap.size, 3, none⟩ = some (.slice A1' n1' c1') ∧ W.cell? ⟨w.heap.size + 1, 0, none⟩ = some (.int .i64 v2) ∧ W.cell? ⟨w.heap.size + 1, 1, none⟩ = some (.slice A2 n2 c2) ∧ W.cell? ⟨w.heap.size + 1, 2, none⟩ = some (.int .i64 v2') ∧ W.cell? ⟨w.heap.size + 1, 3, none⟩ = some (.slice A2' n2' c2')) (first | exact keep8 hB2 (by assumption) | exact keep8 hB1 (by assumption) | exact ⟨p1, p2, p3, p4, q1, q2, q3, q4⟩ | exact keep8_set4 (by assumption) (by omega) (by omega) | go_keep) (first | (have _hh := h1_1; go_at_call 55; refine (radd_calls v1 A1 n1 c1 v1' A1' n1' c1' q u B m d u' B' m' d' (-r) _ h1_1 h2_1 k s1 s2.neg hk).mono ?_; rintro e w2 ⟨⟨v, A, n, c, v', A', n', c', rfl, hV⟩, hB2⟩; have a3_2 := blk_below a3_1 hB2; have B3_2 := bl_then B3_1 hB2; have hE := Lib.hid (putRat hV a3_2 B3_2 (by omega)); obtain ⟨⟨z1, z2, z3, z4⟩, z5, z6, z7, z8⟩ := bx4 a3_2) | (go_at_call 44; refine (rneg_calls v2 A2 n2 c2 v2' A2' n2' c2' r _ (by first | exact h2 | exact h2.kp (Kp.refl _ _).drew)).mono ?_; rintro e w1 ⟨⟨u, B, m, d, u', B', m', d', rfl, h2_1⟩, hB1⟩; have h1_1 := (h1.kp (Kp.refl _ _).drew).below hB1; have a3_1 := blk_below (blk_drew a3) hB1; have B3_1 := bl_then (bl_drew B3) hB1))
  all_goals
    go_wp2
    refine bodyPost_ret (results_cell_row rfl _ _ (w.heap.size + 1 + 1) 63 #[.int .i64 v, .slice A n c, .int .i64 v', .slice A' n' c'] (0, 0) _ rfl hE.out.2.2 Try.underlying63 rfl (by kernel_rfl)) rfl ?_
    exact ⟨⟨_, _, _, _, _, _, _, _, rfl, hE.out.1⟩, hE.out.2.1⟩

set_option maxHeartbeats 8000000 in
set_option maxRecDepth 100000 in
theorem rcmp_calls (v1 : Int) (A1 : Option Addr) (n1 c1 : Nat) (v1' : Int) (A1' : Option Addr) (n1' c1' : Nat) (q : Rat) (v2 : Int) (A2 : Option Addr) (n2 c2 : Nat) (v2' : Int) (A2' : Option Addr) (n2' c2' : Nat) (r : Rat) (w : World)
    (h1 : RatV w v1 A1 n1 c1 v1' A1' n1' c1' q) (h2 : RatV w v2 A2 n2 c2 v2' A2' n2' c2' r) (k : Nat) (s1 : SzR k q) (s2 : SzR k r) (hk : k ≤ 10000000000) :
    Calls Try.prog 70 #[.agg #[.int .i64 v1, .slice A1 n1 c1, .int .i64 v1', .slice A1' n1' c1'], .agg #[.int .i64 v2, .slice A2 n2 c2, .int .i64 v2', .slice A2' n2' c2']] w fun e w' => e = .returned (.int .i64 (q - r).num.sign) ∧ Below w.heap.size w w' := by
  go_enter Try.func70, Try.ntmps70
  go_wp2_with fail
  refine (rsub_calls v1 A1 n1 c1 v1' A1' n1' c1' q v2 A2 n2 c2 v2' A2' n2' c2' r _ (h1.kp (((Kp.refl _ _).alloc _).alloc _)) (h2.kp (((Kp.refl _ _).alloc _).alloc _)) k s1 s2 hk).mono ?_
  rintro e w1 ⟨⟨u, B, m, d, u', B', m', d', rfl, h3⟩, hB1⟩
  have HB := bl_then (bl_alloc (bl_alloc (Below.refl w.heap.size w) _) _) hB1
  clear hB1
  go_wp2_with fail
  refine (rsign_calls u B m d u' B' m' d' (q - r) _ h3).mono ?_
  rintro e w2 ⟨rfl, hB2⟩
  replace HB := bl_then HB hB2
  go_wp2
  go_ret
  exact ⟨rfl, HB⟩

theorem keep4_set2 {w : World} {ga g : Nat} {x1 x2 x3 x4 y1 y2 : Value} (h : w.cell? ⟨ga, 0, none⟩ = some x1 ∧ w.cell? ⟨ga, 1, none⟩ = some x2 ∧ w.cell? ⟨ga, 2, none⟩ = some x3 ∧ w.cell? ⟨ga, 3, none⟩ = some x4) (ea : ga ≠ g) :
    let W := (w.setCell ⟨g, 0, none⟩ y1).setCell ⟨g, 1, none⟩ y2
    W.cell? ⟨ga, 0, none⟩ = some x1 ∧ W.cell? ⟨ga, 1, none⟩ = some x2 ∧ W.cell? ⟨ga, 2, none⟩ = some x3 ∧ W.cell? ⟨ga, 3, none⟩ = some x4 :=
  keep4_set1 (keep4_set1 h ea ea ea ea) ea ea ea ea
theorem kp_setI {W : World} {g : Nat} {a b : Value} (hb : W.heap[g]? = some (.cells #[a, b] 61 (0, 0))) (x y : Value) : Kp 118 W ((W.setCell ⟨g, 0, none⟩ x).setCell ⟨g, 1, none⟩ y) :=
  ((Kp.refl _ _).set (p := ⟨g, 0, none⟩) hb (by decide) x).set (p := ⟨g, 1, none⟩) (blk_set hb 0 x) (by decide) y
theorem blk_far2 {W : World} {g k : Nat} {x y : Value} {o : Obj} (hk : k ≠ g) (h : W.heap[k]? = some o) : ((W.setCell ⟨g, 0, none⟩ x).setCell ⟨g, 1, none⟩ y).heap[k]? = some o := blk_far (blk_far h hk) hk
theorem st_fresh {w : World} {g : Nat} {o : Obj} {a b c0 c1 : Value} {t' : TypeId} (F : w.heap[g]? = some o) : (((w.alloc (.cells #[c0, c1] t')).setCell ⟨g, 0, none⟩ a).setCell ⟨g, 1, none⟩ b).heap[w.heap.size]? = some (.cells #[c0, c1] t' (0, 0)) :=
  blk_far (blk_far (blk_at _ rfl) (Nat.ne_of_gt (blk_lt F))) (Nat.ne_of_gt (blk_lt F))
theorem st_old {w : World} {gq gr : Nat} {o : Obj} {a b : Value} (F : w.heap[gr]? = some o) (ne : gr ≠ gq) : ((w.setCell ⟨gq, 0, none⟩ a).setCell ⟨gq, 1, none⟩ b).heap[gr]? = some o :=
  blk_far (blk_far F ne) ne
theorem floor_rel {w W : World} {v : Int} {A : Option Addr} {n c : Nat} {x : Int} {v' : Int} {A' : Option Addr} {n' c' : Nat} {x' : Int} {g g' : Nat} {o : Obj} (h : IntV W v A n c x) (h' : IntV W v' A' n' c' x')
    (hb : W.heap[g]? = some (.cells #[.int .i64 0, .slice none 0 0] 61 (0, 0))) (hb' : W.heap[g']? = some (.cells #[.int .i64 0, .slice none 0 0] 61 (0, 0))) (hr : W.heap[w.heap.size + 1]? = some o) (hB : Below w.heap.size w W) (hg : w.heap.size + 1 < g) (hg' : w.heap.size + 1 < g') (hn : g ≠ g') :
    let W' := (((W.setCell ⟨g, 0, none⟩ (.int .i64 v)).setCell ⟨g, 1, none⟩ (.slice A n c)).setCell ⟨g', 0, none⟩ (.int .i64 v')).setCell ⟨g', 1, none⟩ (.slice A' n' c')
    IntV W' v A n c x ∧ IntV W' v' A' n' c' x' ∧ Below w.heap.size w W' ∧ W'.heap[g]? = some (.cells #[.int .i64 v, .slice A n c] 61 (0, 0)) ∧ W'.heap[g']? = some (.cells #[.int .i64 v', .slice A' n' c'] 61 (0, 0)) ∧ W'.heap[w.heap.size + 1]? = some o ∧ w.heap.size + 1 < g ∧ w.heap.size + 1 < g' := by
  have e := putInt2 h h' hb hb' hB (by omega) (by omega) hn
  exact ⟨e.1, e.2.1, e.2.2.1, e.2.2.2.1, e.2.2.2.2, blk_far (blk_far (blk_far (blk_far hr (by omega)) (by omega)) (by omega)) (by omega), hg, hg'⟩
theorem floor_law (q : Rat) : ((q.num.tmod (q.den : Int)).sign < 0 → q.floor = q.num.tdiv (q.den : Int) - 1) ∧ (¬ (q.num.tmod (q.den : Int)).sign < 0 → q.floor = q.num.tdiv (q.den : Int)) := by
  have hd := q.den_pos
  rw [Rat.floor_def]
  have h1 := Int.tmod_add_mul_tdiv q.num (q.den : Int)
  have h2 := Int.emod_add_mul_ediv q.num (q.den : Int)
  have h3 := Int.emod_nonneg q.num (show (q.den : Int) ≠ 0 by omega)
  have h4 := Int.emod_lt_of_pos q.num (show (0 : Int) < (q.den : Int) by omega)
  have h5 := Int.tmod_lt_of_pos q.num (show (0 : Int) < (q.den : Int) by omega)
  have h6 := Int.lt_tmod_of_pos q.num (show (0 : Int) < (q.den : Int) by omega)
  rw [Int.sign_neg_iff]
  generalize q.num.tmod (q.den : Int) = r at *
  generalize q.num.tdiv (q.den : Int) = a at *
  generalize q.num / (q.den : Int) = b at *
  generalize q.num % (q.den : Int) = s at *
  generalize (q.den : Int) = d at *
  constructor
  · intro hr
    have e : d * (a - b) = s - r := by grind
    have : a - b = 1 := by
      have u1 : 0 < a - b := by
        rcases Int.lt_or_le 0 (a - b) with h | h
        · exact h
        · have := Int.mul_nonpos_of_nonneg_of_nonpos (show 0 ≤ d by omega) h
          omega
      have u2 : a - b < 2 := by
        rcases Int.lt_or_le (a - b) 2 with h | h
        · exact h
        · have : d * 2 ≤ d * (a - b) := Int.mul_le_mul_of_nonneg_left h (by omega)
          omega
      omega
    omega
  · intro hr
    have e : d * (a - b) = s - r := by grind
    have : a - b = 0 := by
      have u1 : -1 < a - b := by
        rcases Int.lt_or_le (-1) (a - b) with h | h
        · exact h
        · have : d * (a - b) ≤ d * (-1) := Int.mul_le_mul_of_nonneg_left h (by omega)
          omega
      have u2 : a - b < 1 := by
        rcases Int.lt_or_le (a - b) 1 with h | h
        · exact h
        · have : d * 1 ≤ d * (a - b) := Int.mul_le_mul_of_nonneg_left h (by omega)
          omega
      omega
    omega

end Go.Proofs.Ytjmbpeniibdnoaa
