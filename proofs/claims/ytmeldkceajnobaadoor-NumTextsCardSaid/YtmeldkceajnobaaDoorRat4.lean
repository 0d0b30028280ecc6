/- exact: Sub, Cmp, Floor of rationals. -/
import Derived.Test.YtmeldkceajnobaaDoorRat3
set_option linter.unusedVariables false
set_option linter.unusedSimpArgs false
namespace Go.Proofs.YtmeldkceajnobaaDoor
open Go.RowKit

theorem SzR.neg {k : Nat} {q : Rat} (h : SzR k q) : SzR k (-q) := ⟨by rw [Rat.neg_num]; exact h.1.neg, by rw [Rat.neg_den]; exact h.2⟩

set_option maxHeartbeats 8000000 in
set_option maxRecDepth 100000 in
theorem rsub_calls (v1 : Int) (A1 : Option Addr) (n1 c1 : Nat) (v1' : Int) (A1' : Option Addr) (n1' c1' : Nat) (q : Rat) (v2 : Int) (A2 : Option Addr) (n2 c2 : Nat) (v2' : Int) (A2' : Option Addr) (n2' c2' : Nat) (r : Rat) (w : World)
    (h1 : RatV w v1 A1 n1 c1 v1' A1' n1' c1' q) (h2 : RatV w v2 A2 n2 c2 v2' A2' n2' c2' r) (k : Nat) (s1 : SzR k q) (s2 : SzR k r) (hk : k ≤ 10000000000) :
    Calls Tryd.prog 51 #[.agg #[.int .i64 v1, .slice A1 n1 c1, .int .i64 v1', .slice A1' n1' c1'], .agg #[.int .i64 v2, .slice A2 n2 c2, .int .i64 v2', .slice A2' n2' c2']] w fun e w' => RatR e w' (q - r) ∧ Below w.heap.size w w' := by
  rw [Rat.sub_eq_add_neg]
  go_enter Tryd.func51, Tryd.ntmps51
  go_wp2_with fail
  have B3 := bl_alloc (bl_alloc (bl_alloc (Below.refl w.heap.size w) (.cells #[.int .i64 v1, .slice A1 n1 c1, .int .i64 v1', .slice A1' n1' c1'] 46)) (.cells #[.int .i64 v2, .slice A2 n2 c2, .int .i64 v2', .slice A2' n2' c2'] 46)) (.cells #[.int .i64 0, .slice none 0 0, .int .i64 0, .slice none 0 0] 46)
  have a1 : (((w.alloc (.cells #[.int .i64 v1, .slice A1 n1 c1, .int .i64 v1', .slice A1' n1' c1'] 46)).alloc (.cells #[.int .i64 v2, .slice A2 n2 c2, .int .i64 v2', .slice A2' n2' c2'] 46)).alloc (.cells #[.int .i64 0, .slice none 0 0, .int .i64 0, .slice none 0 0] 46)).heap[w.heap.size]? = some (.cells #[.int .i64 v1, .slice A1 n1 c1, .int .i64 v1', .slice A1' n1' c1'] 46 (0, 0)) := blk_alloc (blk_alloc (blk_at _ rfl) _) _
  have a2 : (((w.alloc (.cells #[.int .i64 v1, .slice A1 n1 c1, .int .i64 v1', .slice A1' n1' c1'] 46)).alloc (.cells #[.int .i64 v2, .slice A2 n2 c2, .int .i64 v2', .slice A2' n2' c2'] 46)).alloc (.cells #[.int .i64 0, .slice none 0 0, .int .i64 0, .slice none 0 0] 46)).heap[w.heap.size + 1]? = some (.cells #[.int .i64 v2, .slice A2 n2 c2, .int .i64 v2', .slice A2' n2' c2'] 46 (0, 0)) := blk_alloc (blk_at _ (by simp)) _
  have a3 : (((w.alloc (.cells #[.int .i64 v1, .slice A1 n1 c1, .int .i64 v1', .slice A1' n1' c1'] 46)).alloc (.cells #[.int .i64 v2, .slice A2 n2 c2, .int .i64 v2', .slice A2' n2' c2'] 46)).alloc (.cells #[.int .i64 0, .slice none 0 0, .int .i64 0, .slice none 0 0] 46)).heap[w.heap.size + 1 + 1]? = some (.cells #[.int .i64 0, .slice none 0 0, .int .i64 0, .slice none 0 0] 46 (0, 0)) := blk_at _ (by simp)
  replace h1 := h1.below B3
  replace h2 := h2.below B3
  generalize ((w.alloc (.cells #[.int .i64 v1, .slice A1 n1 c1, .int .i64 v1', .slice A1' n1' c1'] 46)).alloc (.cells #[.int .i64 v2, .slice A2 n2 c2, .int .i64 v2', .slice A2' n2' c2'] 46)).alloc (.cells #[.int .i64 0, .slice none 0 0, .int .i64 0, .slice none 0 0] 46) = W3 at *
  obtain ⟨⟨p1, p2, p3, p4⟩, p5, p6, p7, p8⟩ := bx4 a1
  obtain ⟨⟨q1, q2, q3, q4⟩, q5, q6, q7, q8⟩ := bx4 a2
  obtain ⟨⟨r1, r2, r3, r4⟩, r5, r6, r7, r8⟩ := bx4 a3
  go_region_held3 (fun W => W.cell? ⟨w.heap.size, 0, none⟩ = some (.int .i64 v1) ∧ W.cell? ⟨w.heap.size, 1, none⟩ = some (.slice A1 n1 c1) ∧ W.cell? ⟨w.heap.size, 2, none⟩ = some (.int .i64 v1') ∧ W.cell? ⟨w.heap.size, 3, none⟩ = some (.slice A1' n1' c1') ∧ W.cell? ⟨w.heap.size + 1, 0, none⟩ = some (.int .i64 v2) ∧ W.cell? ⟨w.heap.size + 1, 1, none⟩ = some (.slice A2 n2 c2) ∧ W.cell? ⟨w.heap.size + 1, 2, none⟩ = some (.int .i64 v2') ∧ W.cell? ⟨w.heap.size + 1, 3, none⟩ = some (.slice A2' n2' c2')) (first | exact keep8 hB2 (by assumption) | exact keep8 hB1 (by assumption) | exact ⟨p1, p2, p3, p4, q1, q2, q3, q4⟩ | exact keep8_set4 (by assumption) (by omega) (by omega) | go_keep) (first | (have _hh := h1_1; go_at_call 28; refine (radd_calls v1 A1 n1 c1 v1' A1' n1' c1' q u B m d u' B' m' d' (-r) _ h1_1 h2_1 k s1 s2.neg hk).mono ?_; rintro e w2 ⟨⟨v, A, n, c, v', A', n', c', rfl, hV⟩, hB2⟩; have a3_2 := blk_below a3_1 hB2; have B3_2 := bl_then B3_1 hB2; have hE := Lib.hid (putRat hV a3_2 B3_2 (by omega)); obtain ⟨⟨z1, z2, z3, z4⟩, z5, z6, z7, z8⟩ := bx4 a3_2) | (go_at_call 33; refine (rneg_calls v2 A2 n2 c2 v2' A2' n2' c2' r _ (by first | exact h2 | exact h2.kp (Kp.refl _ _).drew)).mono ?_; rintro e w1 ⟨⟨u, B, m, d, u', B', m', d', rfl, h2_1⟩, hB1⟩; have h1_1 := (h1.kp (Kp.refl _ _).drew).below hB1; have a3_1 := blk_below (blk_drew a3) hB1; have B3_1 := bl_then (bl_drew B3) hB1))
  all_goals
    go_wp2
    refine bodyPost_ret (results_cell_row rfl _ _ (w.heap.size + 1 + 1) 46 #[.int .i64 v, .slice A n c, .int .i64 v', .slice A' n' c'] (0, 0) _ rfl hE.out.2.2 Tryd.underlying46 rfl (by kernel_rfl)) rfl ?_
    exact ⟨⟨_, _, _, _, _, _, _, _, rfl, hE.out.1⟩, hE.out.2.1⟩

set_option maxHeartbeats 8000000 in
set_option maxRecDepth 100000 in
theorem rcmp_calls (v1 : Int) (A1 : Option Addr) (n1 c1 : Nat) (v1' : Int) (A1' : Option Addr) (n1' c1' : Nat) (q : Rat) (v2 : Int) (A2 : Option Addr) (n2 c2 : Nat) (v2' : Int) (A2' : Option Addr) (n2' c2' : Nat) (r : Rat) (w : World)
    (h1 : RatV w v1 A1 n1 c1 v1' A1' n1' c1' q) (h2 : RatV w v2 A2 n2 c2 v2' A2' n2' c2' r) (k : Nat) (s1 : SzR k q) (s2 : SzR k r) (hk : k ≤ 10000000000) :
    Calls Tryd.prog 30 #[.agg #[.int .i64 v1, .slice A1 n1 c1, .int .i64 v1', .slice A1' n1' c1'], .agg #[.int .i64 v2, .slice A2 n2 c2, .int .i64 v2', .slice A2' n2' c2']] w fun e w' => e = .returned (.int .i64 (q - r).num.sign) ∧ Below w.heap.size w w' := by
  go_enter Tryd.func30, Tryd.ntmps30
  go_wp2_with fail
  refine (rsub_calls v1 A1 n1 c1 v1' A1' n1' c1' q v2 A2 n2 c2 v2' A2' n2' c2' r _ (h1.kp (((Kp.refl _ _).alloc _).alloc _)) (h2.kp (((Kp.refl _ _).alloc _).alloc _)) k s1 s2 hk).mono ?_
  rintro e w1 ⟨⟨u, B, m, d, u', B', m', d', rfl, h3⟩, hB1⟩
  have HB := bl_then (bl_alloc (bl_alloc (Below.refl w.heap.size w) _) _) hB1
  clear hB1
  go_wp2_with fail
  refine (rsign_calls u B m d u' B' m' d' (q - r) _ h3).mono ?_
  rintro e w2 ⟨rfl, hB2⟩
  replace HB := bl_then HB hB2
  go_wp2
  go_ret
  exact ⟨rfl, HB⟩

theorem keep4_set2 {w : World} {ga g : Nat} {x1 x2 x3 x4 y1 y2 : Value} (h : w.cell? ⟨ga, 0, none⟩ = some x1 ∧ w.cell? ⟨ga, 1, none⟩ = some x2 ∧ w.cell? ⟨ga, 2, none⟩ = some x3 ∧ w.cell? ⟨ga, 3, none⟩ = some x4) (ea : ga ≠ g) :
    let W := (w.setCell ⟨g, 0, none⟩ y1).setCell ⟨g, 1, none⟩ y2
    W.cell? ⟨ga, 0, none⟩ = some x1 ∧ W.cell? ⟨ga, 1, none⟩ = some x2 ∧ W.cell? ⟨ga, 2, none⟩ = some x3 ∧ W.cell? ⟨ga, 3, none⟩ = some x4 :=
  keep4_set1 (keep4_set1 h ea ea ea ea) ea ea ea ea
theorem kp_setI {W : World} {g : Nat} {a b : Value} (hb : W.heap[g]? = some (.cells #[a, b] 38 (0, 0))) (x y : Value) : Kp 72 W ((W.setCell ⟨g, 0, none⟩ x).setCell ⟨g, 1, none⟩ y) :=
  ((Kp.refl _ _).set (p := ⟨g, 0, none⟩) hb (by decide) x).set (p := ⟨g, 1, none⟩) (blk_set hb 0 x) (by decide) y
theorem blk_far2 {W : World} {g k : Nat} {x y : Value} {o : Obj} (hk : k ≠ g) (h : W.heap[k]? = some o) : ((W.setCell ⟨g, 0, none⟩ x).setCell ⟨g, 1, none⟩ y).heap[k]? = some o := blk_far (blk_far h hk) hk
theorem st_fresh {w : World} {g : Nat} {o : Obj} {a b c0 c1 : Value} {t' : TypeId} (F : w.heap[g]? = some o) : (((w.alloc (.cells #[c0, c1] t')).setCell ⟨g, 0, none⟩ a).setCell ⟨g, 1, none⟩ b).heap[w.heap.size]? = some (.cells #[c0, c1] t' (0, 0)) :=
  blk_far (blk_far (blk_at _ rfl) (Nat.ne_of_gt (blk_lt F))) (Nat.ne_of_gt (blk_lt F))
theorem st_old {w : World} {gq gr : Nat} {o : Obj} {a b : Value} (F : w.heap[gr]? = some o) (ne : gr ≠ gq) : ((w.setCell ⟨gq, 0, none⟩ a).setCell ⟨gq, 1, none⟩ b).heap[gr]? = some o :=
  blk_far (blk_far F ne) ne
theorem floor_rel {w W : World} {v : Int} {A : Option Addr} {n c : Nat} {x : Int} {v' : Int} {A' : Option Addr} {n' c' : Nat} {x' : Int} {g g' : Nat} {o : Obj} (h : IntV W v A n c x) (h' : IntV W v' A' n' c' x')
    (hb : W.heap[g]? = some (.cells #[.int .i64 0, .slice none 0 0] 38 (0, 0))) (hb' : W.heap[g']? = some (.cells #[.int .i64 0, .slice none 0 0] 38 (0, 0))) (hr : W.heap[w.heap.size + 1]? = some o) (hB : Below w.heap.size w W) (hg : w.heap.size + 1 < g) (hg' : w.heap.size + 1 < g') (hn : g ≠ g') :
    let W' := (((W.setCell ⟨g, 0, none⟩ (.int .i64 v)).setCell ⟨g, 1, none⟩ (.slice A n c)).setCell ⟨g', 0, none⟩ (.int .i64 v')).setCell ⟨g', 1, none⟩ (.slice A' n' c')
    IntV W' v A n c x ∧ IntV W' v' A' n' c' x' ∧ Below w.heap.size w W' ∧ W'.heap[g]? = some (.cells #[.int .i64 v, .slice A n c] 38 (0, 0)) ∧ W'.heap[g']? = some (.cells #[.int .i64 v', .slice A' n' c'] 38 (0, 0)) ∧ W'.heap[w.heap.size + 1]? = some o ∧ w.heap.size + 1 < g ∧ w.heap.size + 1 < g' := by
  have e := putInt2 h h' hb hb' hB (by omega) (by omega) hn
  exact ⟨e.1, e.2.1, e.2.2.1, e.2.2.2.1, e.2.2.2.2, blk_far (blk_far (blk_far (blk_far hr (by omega)) (by omega)) (by omega)) (by omega), hg, hg'⟩
theorem floor_law (q : Rat) : ((q.num.tmod (q.den : Int)).sign < 0 → q.floor = q.num.tdiv (q.den : Int) - 1) ∧ (¬ (q.num.tmod (q.den : Int)).sign < 0 → q.floor = q.num.tdiv (q.den : Int)) := by
  have hd := q.den_pos
  rw [Rat.floor_def]
  have h1 := Int.tmod_add_mul_tdiv q.num (q.den : Int)
  have h2 := Int.emod_add_mul_ediv q.num (q.den : Int)
  have h3 := Int.emod_nonneg q.num (show (q.den : Int) ≠ 0 by omega)
  have h4 := Int.emod_lt_of_pos q.num (show (0 : Int) < (q.den : Int) by omega)
  have h5 := Int.tmod_lt_of_pos q.num (show (0 : Int) < (q.den : Int) by omega)
  have h6 := Int.lt_tmod_of_pos q.num (show (0 : Int) < (q.den : Int) by omega)
  rw [Int.sign_neg_iff]
  generalize q.num.tmod (q.den : Int) = r at *
  generalize q.num.tdiv (q.den : Int) = a at *
  generalize q.num / (q.den : Int) = b at *
  generalize q.num % (q.den : Int) = s at *
  generalize (q.den : Int) = d at *
  constructor
  · intro hr
    have e : d * (a - b) = s - r := by grind
    have : a - b = 1 := by
      have u1 : 0 < a - b := by
        rcases Int.lt_or_le 0 (a - b) with h | h
        · exact h
        · have := Int.mul_nonpos_of_nonneg_of_nonpos (show 0 ≤ d by omega) h
          omega
      have u2 : a - b < 2 := by
        rcases Int.lt_or_le (a - b) 2 with h | h
        · exact h
        · have : d * 2 ≤ d * (a - b) := Int.mul_le_mul_of_nonneg_left h (by omega)
          omega
      omega
    omega
  · intro hr
    have e : d * (a - b) = s - r := by grind
    have : a - b = 0 := by
      have u1 : -1 < a - b := by
        rcases Int.lt_or_le (-1) (a - b) with h | h
        · exact h
        · have : d * (a - b) ≤ d * (-1) := Int.mul_le_mul_of_nonneg_left h (by omega)
          omega
      have u2 : a - b < 1 := by
        rcases Int.lt_or_le (a - b) 1 with h | h
        · exact h
        · have : d * 1 ≤ d * (a - b) := Int.mul_le_mul_of_nonneg_left h (by omega)
          omega
      omega
    omega

set_option maxHeartbeats 30000000 in
set_option maxRecDepth 100000 in
theorem rfloor_calls (v : Int) (A : Option Addr) (n c : Nat) (v' : Int) (A' : Option Addr) (n' c' : Nat) (q : Rat) (w : World) (h : RatV w v A n c v' A' n' c' q) (k : Nat) (s1 : SzR k q) (hk : k + 1 ≤ 30000000000) :
    Calls Tryd.prog 52 #[.agg #[.int .i64 v, .slice A n c, .int .i64 v', .slice A' n' c']] w fun e w' => IntR e w' q.floor ∧ Below w.heap.size w w' := by
  have hdp := q.den_pos
  have LAW := Lib.hid (floor_law q)
  generalize hfl : q.floor = fl at *
  clear hfl
  go_enter Tryd.func52, Tryd.ntmps52
  go_wp2_with fail
  have B2 := bl_alloc (bl_alloc (Below.refl w.heap.size w) (.cells #[.int .i64 v, .slice A n c, .int .i64 v', .slice A' n' c'] 46)) (.cells #[.int .i64 0, .slice none 0 0] 38)
  have a1 : ((w.alloc (.cells #[.int .i64 v, .slice A n c, .int .i64 v', .slice A' n' c'] 46)).alloc (.cells #[.int .i64 0, .slice none 0 0] 38)).heap[w.heap.size]? = some (.cells #[.int .i64 v, .slice A n c, .int .i64 v', .slice A' n' c'] 46 (0, 0)) := blk_alloc (blk_at _ rfl) _
  have a2 : ((w.alloc (.cells #[.int .i64 v, .slice A n c, .int .i64 v', .slice A' n' c'] 46)).alloc (.cells #[.int .i64 0, .slice none 0 0] 38)).heap[w.heap.size + 1]? = some (.cells #[.int .i64 0, .slice none 0 0] 38 (0, 0)) := blk_at _ (by simp)
  replace h := h.below B2
  generalize (w.alloc (.cells #[.int .i64 v, .slice A n c, .int .i64 v', .slice A' n' c'] 46)).alloc (.cells #[.int .i64 0, .slice none 0 0] 38) = W2 at *
  have l2 := blk_lt a2
  have hI := h.1
  obtain ⟨⟨p1, p2, p3, p4⟩, p5, p6, p7, p8⟩ := bx4 a1
  go_cut [3, 4] (fun x y wc => ∃ (gq gr : Nat) (u : Int) (D : Option Addr) (m d : Nat) (u' : Int) (D' : Option Addr) (m' d' : Nat), x = .pointer (some ⟨gq, 0, none⟩) ∧ y = .pointer (some ⟨gr, 0, none⟩) ∧ IntV wc u D m d (q.num.tdiv (q.den : Int)) ∧ IntV wc u' D' m' d' (q.num.tmod (q.den : Int)) ∧ Below w.heap.size w wc ∧ wc.heap[gq]? = some (.cells #[.int .i64 u, .slice D m d] 38 (0, 0)) ∧ wc.heap[gr]? = some (.cells #[.int .i64 u', .slice D' m' d'] 38 (0, 0)) ∧ wc.heap[w.heap.size + 1]? = some (.cells #[.int .i64 0, .slice none 0 0] 38 (0, 0)) ∧ w.heap.size + 1 < gq ∧ w.heap.size + 1 < gr)
  case first =>
    go_region_held3 (fun W => W.cell? ⟨w.heap.size, 0, none⟩ = some (.int .i64 v) ∧ W.cell? ⟨w.heap.size, 1, none⟩ = some (.slice A n c) ∧ W.cell? ⟨w.heap.size, 2, none⟩ = some (.int .i64 v') ∧ W.cell? ⟨w.heap.size, 3, none⟩ = some (.slice A' n' c')) (first | with_reducible exact keep4 hB2 (by assumption) | with_reducible exact keep4 hB1 (by assumption) | ((repeat (first | with_reducible assumption | with_reducible exact P2 | with_reducible exact P1 | with_reducible refine keep4 (bl_alloc (Below.refl _ _) _) ?_ | with_reducible refine keep4_set2 ?_ (by first | omega | (simp; omega)))); done) | exact ⟨p1, p2, p3, p4⟩ | go_keep) (first | (have _hh := tl; go_at_call 45; refine (quo_calls v A n c q.num vl Al nl cl (q.den : Int) _ (by repeat (first | exact hI | refine IntV.kp ?_ ((Kp.refl _ _).alloc _) | refine IntV.kp ?_ (Kp.refl _ _).drew | refine IntV.below ?_ hB1)) (by repeat (first | exact tl | refine IntV.kp ?_ ((Kp.refl _ _).alloc _) | refine IntV.kp ?_ (Kp.refl _ _).drew)) k s1.1 s1.2 (by omega) (by omega)).mono ?_; rintro e w2 ⟨u, D, m, d, u', D', m', d', rfl, tq, tr, hB2⟩; have s2 := hB2.size; (try simp only [World.size_alloc, World.size_drew] at s2); have P2 := (bx4 (w := w2) (g := w.heap.size) (show w2.heap[w.heap.size]? = some (.cells #[.int .i64 v, .slice A n c, .int .i64 v', .slice A' n' c'] 46 (0, 0)) from by repeat (first | with_reducible exact F0 | with_reducible exact F1 | with_reducible exact F2 | with_reducible exact F3 | with_reducible exact a1 | with_reducible exact a2 | with_reducible refine blk_below ?_ hB2 | with_reducible refine blk_below ?_ hB1 | (with_reducible refine blk_at _ ?_; (first | rfl | (simp; done))) | with_reducible refine blk_alloc ?_ _ | with_reducible refine blk_drew ?_ | with_reducible refine blk_set2 (a := .int .i64 0) (b := .slice none 0 0) ?_ _ _ | (with_reducible refine blk_far2 ?_ ?_; focus (first | omega | (simp; omega)))))).1; (first | (have F0 := blk_below E0 hB2; have F1 := blk_below E1 hB2) | (have F0 := blk_below E0 hB2) | (have F0 := blk_below (blk_alloc E0 _) hB2; have F2 : w2.heap[w1.heap.size]? = some (.cells #[.int .i64 0, .slice none 0 0] 38 (0, 0)) := blk_below (blk_at (W := w1) _ rfl) hB2) | (have F2 : w2.heap[w1.heap.size]? = some (.cells #[.int .i64 0, .slice none 0 0] 38 (0, 0)) := blk_below (blk_alloc (blk_at (W := w1) _ rfl) (.cells #[.int .i64 0, .slice none 0 0] 38)) hB2; have F3 : w2.heap[w1.heap.size + 1]? = some (.cells #[.int .i64 0, .slice none 0 0] 38 (0, 0)) := blk_below (blk_at (W := w1.alloc (.cells #[.int .i64 0, .slice none 0 0] 38)) _ (World.size_alloc _ _).symm) hB2) | (have F2 : w2.heap[w1.heap.size]? = some (.cells #[.int .i64 0, .slice none 0 0] 38 (0, 0)) := blk_below (blk_at (W := w1) _ rfl) hB2) | skip); (try (have G0 := bx2 F0; obtain ⟨f0, g0, h0, i0⟩ := G0)); (try (have G4 := bx2 (blk_alloc F0 (.cells #[.int .i64 0, .slice none 0 0] 38)); obtain ⟨f4, g4, h4, i4⟩ := G4)); (try (have G1 := bx2 F1; obtain ⟨f1, g1, h1, i1⟩ := G1)); (try (have G5 := bx2 (blk_alloc F1 (.cells #[.int .i64 0, .slice none 0 0] 38)); obtain ⟨f5, g5, h5, i5⟩ := G5)); (try (have G2 := bx2 F2; obtain ⟨f2, g2, h2, i2⟩ := G2)); (try (have G6 := bx2 (blk_alloc F2 (.cells #[.int .i64 0, .slice none 0 0] 38)); obtain ⟨f6, g6, h6, i6⟩ := G6)); (try (have G3 := bx2 F3; obtain ⟨f3, g3, h3, i3⟩ := G3)); (try (have G7 := bx2 (blk_alloc F3 (.cells #[.int .i64 0, .slice none 0 0] 38)); obtain ⟨f7, g7, h7, i7⟩ := G7)); (try (have Gs0 := bx2 (st_fresh (a := .int .i64 u) (b := .slice D m d) (c0 := .int .i64 0) (c1 := .slice none 0 0) (t' := 38) F0); obtain ⟨js0, ks0, ls0, ms0⟩ := Gs0)); (try (have Gm0 := bx2 (blk_alloc F0 (.cells #[.int .i64 u, .slice D m d] 38)); obtain ⟨jm0, km0, lm0, mm0⟩ := Gm0)); (try (have Gs1 := bx2 (st_fresh (a := .int .i64 u) (b := .slice D m d) (c0 := .int .i64 0) (c1 := .slice none 0 0) (t' := 38) F1); obtain ⟨js1, ks1, ls1, ms1⟩ := Gs1)); (try (have Gm1 := bx2 (blk_alloc F1 (.cells #[.int .i64 u, .slice D m d] 38)); obtain ⟨jm1, km1, lm1, mm1⟩ := Gm1)); (try (have Gs2 := bx2 (st_fresh (a := .int .i64 u) (b := .slice D m d) (c0 := .int .i64 0) (c1 := .slice none 0 0) (t' := 38) F2); obtain ⟨js2, ks2, ls2, ms2⟩ := Gs2)); (try (have Gm2 := bx2 (blk_alloc F2 (.cells #[.int .i64 u, .slice D m d] 38)); obtain ⟨jm2, km2, lm2, mm2⟩ := Gm2)); (try (have Gs3 := bx2 (st_fresh (a := .int .i64 u) (b := .slice D m d) (c0 := .int .i64 0) (c1 := .slice none 0 0) (t' := 38) F3); obtain ⟨js3, ks3, ls3, ms3⟩ := Gs3)); (try (have Gm3 := bx2 (blk_alloc F3 (.cells #[.int .i64 u, .slice D m d] 38)); obtain ⟨jm3, km3, lm3, mm3⟩ := Gm3)); (try (have Go01 := bx2 (st_old (a := .int .i64 u) (b := .slice D m d) (gq := W2.heap.size) F1 (Nat.ne_of_gt (Nat.lt_succ_self _))); obtain ⟨jo01, ko01, lo01, mo01⟩ := Go01)); (try (have Go10 := bx2 (st_old (a := .int .i64 u) (b := .slice D m d) (gq := W2.heap.size + 1) F0 (Nat.ne_of_lt (Nat.lt_succ_self _))); obtain ⟨jo10, ko10, lo10, mo10⟩ := Go10)); (try (have Go23 := bx2 (st_old (a := .int .i64 u) (b := .slice D m d) (gq := w1.heap.size) F3 (Nat.ne_of_gt (Nat.lt_succ_self _))); obtain ⟨jo23, ko23, lo23, mo23⟩ := Go23)); (try (have Go32 := bx2 (st_old (a := .int .i64 u) (b := .slice D m d) (gq := w1.heap.size + 1) F2 (Nat.ne_of_lt (Nat.lt_succ_self _))); obtain ⟨jo32, ko32, lo32, mo32⟩ := Go32)); (try (have Go02 := bx2 (st_old (a := .int .i64 u) (b := .slice D m d) (gq := W2.heap.size) F2 (Nat.ne_of_gt (blk_lt E0))); obtain ⟨jo02, ko02, lo02, mo02⟩ := Go02)); (try (have Go20 := bx2 (st_old (a := .int .i64 u) (b := .slice D m d) (gq := w1.heap.size) F0 (Nat.ne_of_lt (blk_lt E0))); obtain ⟨jo20, ko20, lo20, mo20⟩ := Go20))) | (go_at_call 44; refine (low_calls v A n c v' A' n' c' q _ (by repeat (first | exact h | refine RatV.kp ?_ ((Kp.refl _ _).alloc _) | refine RatV.kp ?_ (Kp.refl _ _).drew | refine RatV.below ?_ hB1))).mono ?_; rintro e w1 ⟨⟨vl, Al, nl, cl, rfl, tl⟩, hB1⟩; have s1' := hB1.size; (try simp only [World.size_alloc, World.size_drew] at s1'); (first | (have E0 : w1.heap[W2.heap.size]? = some (.cells #[.int .i64 0, .slice none 0 0] 38 (0, 0)) := blk_below (blk_alloc (blk_at (W := W2.drew) _ rfl) (.cells #[.int .i64 0, .slice none 0 0] 38)) hB1; have E1 : w1.heap[W2.heap.size + 1]? = some (.cells #[.int .i64 0, .slice none 0 0] 38 (0, 0)) := blk_below (blk_at (W := W2.drew.alloc (.cells #[.int .i64 0, .slice none 0 0] 38)) _ (World.size_alloc _ _).symm) hB1) | (have E0 : w1.heap[W2.heap.size]? = some (.cells #[.int .i64 0, .slice none 0 0] 38 (0, 0)) := blk_below (blk_at (W := W2.drew) _ rfl) hB1) | skip); have P1 := (bx4 (w := w1) (g := w.heap.size) (show w1.heap[w.heap.size]? = some (.cells #[.int .i64 v, .slice A n c, .int .i64 v', .slice A' n' c'] 46 (0, 0)) from by repeat (first | with_reducible exact F0 | with_reducible exact F1 | with_reducible exact F2 | with_reducible exact F3 | with_reducible exact a1 | with_reducible exact a2 | with_reducible refine blk_below ?_ hB2 | with_reducible refine blk_below ?_ hB1 | (with_reducible refine blk_at _ ?_; (first | rfl | (simp; done))) | with_reducible refine blk_alloc ?_ _ | with_reducible refine blk_drew ?_ | with_reducible refine blk_set2 (a := .int .i64 0) (b := .slice none 0 0) ?_ _ _ | (with_reducible refine blk_far2 ?_ ?_; focus (first | omega | (simp; omega)))))).1) | fail)
    all_goals
      go_wp2
      go_meet
      case rel =>
        refine ⟨_, _, u, D, m, d, u', D', m', d', rfl, rfl, ?_, ?_, ?_, ?_, ?_, ?_, ?_, ?_⟩
        · (repeat (first | exact tq | refine IntV.kp ?_ ((Kp.refl _ _).alloc _) | refine IntV.kp ?_ (Kp.refl _ _).drew | refine IntV.kp ?_ (kp_setI (a := .int .i64 0) (b := .slice none 0 0) ?_ _ _) | (first | with_reducible exact F0 | with_reducible exact F1 | with_reducible exact F2 | with_reducible exact F3 | with_reducible exact a1 | with_reducible exact a2 | with_reducible refine blk_below ?_ hB2 | with_reducible refine blk_below ?_ hB1 | (with_reducible refine blk_at _ ?_; (first | rfl | (simp; done))) | with_reducible refine blk_alloc ?_ _ | with_reducible refine blk_drew ?_ | with_reducible refine blk_set2 (a := .int .i64 0) (b := .slice none 0 0) ?_ _ _ | (with_reducible refine blk_far2 ?_ ?_; focus (first | omega | (simp; omega))))))
        · (repeat (first | exact tr | refine IntV.kp ?_ ((Kp.refl _ _).alloc _) | refine IntV.kp ?_ (Kp.refl _ _).drew | refine IntV.kp ?_ (kp_setI (a := .int .i64 0) (b := .slice none 0 0) ?_ _ _) | (first | with_reducible exact F0 | with_reducible exact F1 | with_reducible exact F2 | with_reducible exact F3 | with_reducible exact a1 | with_reducible exact a2 | with_reducible refine blk_below ?_ hB2 | with_reducible refine blk_below ?_ hB1 | (with_reducible refine blk_at _ ?_; (first | rfl | (simp; done))) | with_reducible refine blk_alloc ?_ _ | with_reducible refine blk_drew ?_ | with_reducible refine blk_set2 (a := .int .i64 0) (b := .slice none 0 0) ?_ _ _ | (with_reducible refine blk_far2 ?_ ?_; focus (first | omega | (simp; omega))))))
        · repeat (first | exact B2 | refine bl_alloc ?_ _ | refine bl_drew ?_ | refine bl_then ?_ hB2 | refine bl_then ?_ hB1 | refine bl_set ?_ (by first | omega | (simp; omega)) _)
        · repeat (first | with_reducible exact F0 | with_reducible exact F1 | with_reducible exact F2 | with_reducible exact F3 | with_reducible exact a1 | with_reducible exact a2 | with_reducible refine blk_below ?_ hB2 | with_reducible refine blk_below ?_ hB1 | (with_reducible refine blk_at _ ?_; (first | rfl | (simp; done))) | with_reducible refine blk_alloc ?_ _ | with_reducible refine blk_drew ?_ | with_reducible refine blk_set2 (a := .int .i64 0) (b := .slice none 0 0) ?_ _ _ | (with_reducible refine blk_far2 ?_ ?_; focus (first | omega | (simp; omega))))
        · repeat (first | with_reducible exact F0 | with_reducible exact F1 | with_reducible exact F2 | with_reducible exact F3 | with_reducible exact a1 | with_reducible exact a2 | with_reducible refine blk_below ?_ hB2 | with_reducible refine blk_below ?_ hB1 | (with_reducible refine blk_at _ ?_; (first | rfl | (simp; done))) | with_reducible refine blk_alloc ?_ _ | with_reducible refine blk_drew ?_ | with_reducible refine blk_set2 (a := .int .i64 0) (b := .slice none 0 0) ?_ _ _ | (with_reducible refine blk_far2 ?_ ?_; focus (first | omega | (simp; omega))))
        · repeat (first | with_reducible exact F0 | with_reducible exact F1 | with_reducible exact F2 | with_reducible exact F3 | with_reducible exact a1 | with_reducible exact a2 | with_reducible refine blk_below ?_ hB2 | with_reducible refine blk_below ?_ hB1 | (with_reducible refine blk_at _ ?_; (first | rfl | (simp; done))) | with_reducible refine blk_alloc ?_ _ | with_reducible refine blk_drew ?_ | with_reducible refine blk_set2 (a := .int .i64 0) (b := .slice none 0 0) ?_ _ _ | (with_reducible refine blk_far2 ?_ ?_; focus (first | omega | (simp; omega))))
        · first | omega | (simp; omega)
        · first | omega | (simp; omega)
  case rest =>
    obtain ⟨gq, gr, u, D, m, d, u', D', m', d', rfl, rfl, tq, tr, HB, hq, hr, hs, lq, lr⟩ := hcut
    clear a1 a2 B2 h hI p1 p2 p3 p4 p5 p6 p7 p8
    have SQ1 : Sz (k + 1) (q.num.tdiv (q.den : Int)) := (s1.1.le (tdiv_abs _ _)).mono (by omega)
    generalize q.num.tdiv (q.den : Int) = xq at *
    generalize hxr : q.num.tmod (q.den : Int) = xr at *
    clear hxr
    obtain ⟨p1, p2, p3, p4⟩ := bx2 hr
    go_wp2_with fail
    refine (sign_calls u' D' m' d' xr _ tr).mono ?_
    rintro e w3 ⟨rfl, hB1⟩
    replace hq := blk_below hq hB1
    replace hs := blk_below hs hB1
    replace HB := bl_then HB hB1
    replace tq := tq.below hB1
    clear hB1 p1 p2 p3 p4 hr tr
    by_cases hlt : xr.sign < 0
    · have E := Lib.hid (LAW.out.1 hlt)
      generalize xr.sign = sg at *
      obtain ⟨p1, p2, p3, p4⟩ := bx2 hq
      go_wp2_with fail
      go_region_held3 (fun W => W.cell? ⟨gq, 0, none⟩ = some (.int .i64 u) ∧ W.cell? ⟨gq, 1, none⟩ = some (.slice D m d)) (first | exact keep2 hB2 (by assumption) | exact keep2 hB1 (by assumption) | exact ⟨p1, p2⟩ | exact keep2_set1 (keep2_set1 (by assumption) (by simp; omega) (by simp; omega)) (by simp; omega) (by simp; omega) | go_keep) (first | (have _hh := t1; go_at_call 75; refine (sub_calls u D m d xq v1 A1 n1 c1 1 _ tq_1 t1 (k + 1) SQ1 (show Sz (k + 1) 1 by unfold Sz; exact Nat.one_lt_two_pow (by omega)) hk).mono ?_; rintro e w5 ⟨y, B, i, j, rfl, hI, hB2⟩; have hs_2 := blk_below hs_1 hB2; have HB_2 := bl_then HB_1 hB2; have hE := Lib.hid (putInt hI hs_2 HB_2 (by omega)); obtain ⟨z1, z2, z3, z4⟩ := bx2 hs_2) | (go_at_call 65; refine (one_calls _).mono ?_; rintro e w4 ⟨⟨v1, A1, n1, c1, rfl, t1⟩, hB1⟩; have tq_1 := (tq.kp (Kp.refl _ _).drew).below hB1; have hs_1 := blk_below (blk_drew hs) hB1; have HB_1 := bl_then (bl_drew HB) hB1) | fail)
      all_goals
        go_wp2
        refine bodyPost_ret (results_cell_row rfl _ _ (w.heap.size + 1) 38 #[.int .i64 y, .slice B i j] (0, 0) _ rfl hE.out.2.2 Tryd.underlying38 rfl (by kernel_rfl)) rfl ?_
        exact ⟨⟨_, _, _, _, rfl, by rw [E.out]; exact hE.out.1⟩, hE.out.2.1⟩
    · have E := Lib.hid (LAW.out.2 (by omega))
      generalize xr.sign = sg at *
      obtain ⟨p1, p2, p3, p4⟩ := bx2 hq
      obtain ⟨z1, z2, z3, z4⟩ := bx2 hs
      have hE := Lib.hid (putInt tq hs HB (by omega))
      go_wp2
      refine bodyPost_ret (results_cell_row rfl _ _ (w.heap.size + 1) 38 #[.int .i64 u, .slice D m d] (0, 0) _ rfl hE.out.2.2 Tryd.underlying38 rfl (by kernel_rfl)) rfl ?_
      exact ⟨⟨_, _, _, _, rfl, by rw [E.out]; exact hE.out.1⟩, hE.out.2.1⟩
end Go.Proofs.YtmeldkceajnobaaDoor
