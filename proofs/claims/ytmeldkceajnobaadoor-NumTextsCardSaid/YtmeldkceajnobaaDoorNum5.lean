/- num: Between. -/
import Derived.Test.YtmeldkceajnobaaDoorNum4
set_option linter.unusedVariables false
set_option linter.unusedSimpArgs false
namespace Go.Proofs.YtmeldkceajnobaaDoor
open Go.RowKit

theorem keep8_st2 {w : World} {g0 g1 g : Nat} {x1 x2 x3 x4 x5 x6 x7 x8 y1 y2 : Value} (h : w.cell? ⟨g0, 0, none⟩ = some x1 ∧ w.cell? ⟨g0, 1, none⟩ = some x2 ∧ w.cell? ⟨g0, 2, none⟩ = some x3 ∧ w.cell? ⟨g0, 3, none⟩ = some x4 ∧ w.cell? ⟨g1, 0, none⟩ = some x5 ∧ w.cell? ⟨g1, 1, none⟩ = some x6 ∧ w.cell? ⟨g1, 2, none⟩ = some x7 ∧ w.cell? ⟨g1, 3, none⟩ = some x8) (ea : g0 ≠ g) (eb : g1 ≠ g) :
    let W := (w.setCell ⟨g, 0, none⟩ y1).setCell ⟨g, 1, none⟩ y2
    W.cell? ⟨g0, 0, none⟩ = some x1 ∧ W.cell? ⟨g0, 1, none⟩ = some x2 ∧ W.cell? ⟨g0, 2, none⟩ = some x3 ∧ W.cell? ⟨g0, 3, none⟩ = some x4 ∧ W.cell? ⟨g1, 0, none⟩ = some x5 ∧ W.cell? ⟨g1, 1, none⟩ = some x6 ∧ W.cell? ⟨g1, 2, none⟩ = some x7 ∧ W.cell? ⟨g1, 3, none⟩ = some x8 :=
  keep8_set1 (keep8_set1 h ea ea ea ea eb eb eb eb) ea ea ea ea eb eb eb eb

theorem keep4_stR {w : World} {ga gb : Nat} {x1 x2 x3 x4 : Value} {g : Nat} {y1 y2 y3 y4 : Value} (h : w.cell? ⟨ga, 0, none⟩ = some x1 ∧ w.cell? ⟨ga, 1, none⟩ = some x2 ∧ w.cell? ⟨gb, 0, none⟩ = some x3 ∧ w.cell? ⟨gb, 1, none⟩ = some x4) (e1 : ga ≠ g) (e2 : gb ≠ g) :
    let W := (((w.setCell ⟨g, 0, none⟩ y1).setCell ⟨g, 1, none⟩ y2).setCell ⟨g, 2, none⟩ y3).setCell ⟨g, 3, none⟩ y4
    W.cell? ⟨ga, 0, none⟩ = some x1 ∧ W.cell? ⟨ga, 1, none⟩ = some x2 ∧ W.cell? ⟨gb, 0, none⟩ = some x3 ∧ W.cell? ⟨gb, 1, none⟩ = some x4 :=
  keep4_set1 (keep4_set1 (keep4_set1 (keep4_set1 h e1 e1 e2 e2) e1 e1 e2 e2) e1 e1 e2 e2) e1 e1 e2 e2
theorem keep4_al {w : World} {o : Obj} {a1 a2 a3 a4 : Addr} {x1 x2 x3 x4 : Value} (h : w.cell? a1 = some x1 ∧ w.cell? a2 = some x2 ∧ w.cell? a3 = some x3 ∧ w.cell? a4 = some x4) : (w.alloc o).cell? a1 = some x1 ∧ (w.alloc o).cell? a2 = some x2 ∧ (w.alloc o).cell? a3 = some x3 ∧ (w.alloc o).cell? a4 = some x4 := keep4 (bl_alloc (Below.refl _ _) _) h
theorem st_freshR {w : World} {g : Nat} {o : Obj} {a b c d c0 c1 c2 c3 : Value} {t' : TypeId} (F : w.heap[g]? = some o) : (((((w.alloc (.cells #[c0, c1, c2, c3] t')).setCell ⟨g, 0, none⟩ a).setCell ⟨g, 1, none⟩ b).setCell ⟨g, 2, none⟩ c).setCell ⟨g, 3, none⟩ d).heap[w.heap.size]? = some (.cells #[c0, c1, c2, c3] t' (0, 0)) :=
  blk_far4 (blk_at _ rfl) (Nat.ne_of_gt (blk_lt F)) a b c d
theorem st_oldR {w : World} {gq gr : Nat} {o : Obj} {a b c d : Value} (F : w.heap[gr]? = some o) (ne : gr ≠ gq) : ((((w.setCell ⟨gq, 0, none⟩ a).setCell ⟨gq, 1, none⟩ b).setCell ⟨gq, 2, none⟩ c).setCell ⟨gq, 3, none⟩ d).heap[gr]? = some o := blk_far4 F ne a b c d
theorem sign_le' {a : Int} : a.sign ≤ 0 ↔ a ≤ 0 := by
  rcases Int.lt_trichotomy a 0 with h | h | h
  · rw [Int.sign_eq_neg_one_of_neg h]; omega
  · rw [h]; simp
  · rw [Int.sign_eq_one_of_pos h]; omega
theorem sign_ge' {a : Int} : 0 ≤ a.sign ↔ 0 ≤ a := by
  rcases Int.lt_trichotomy a 0 with h | h | h
  · rw [Int.sign_eq_neg_one_of_neg h]; omega
  · rw [h]; simp
  · rw [Int.sign_eq_one_of_pos h]; omega
/-- What Between answers. -/
def Btw (t l t' l' T L E : Int) : Prop :=
  (¬ (OkN t l ∧ OkN t' l') ∧ T = 0 ∧ L = 0 ∧ E = 1) ∨ ((OkN t l ∧ OkN t' l') ∧
    ((¬ Rat.divInt t l ≤ Rat.divInt t' l' ∧ T = 0 ∧ L = 0 ∧ E = 6) ∨ (Rat.divInt t l ≤ Rat.divInt t' l' ∧
      ((t ≤ 0 ∧ 0 ≤ t' ∧ T = 0 ∧ L = 1 ∧ E = 0) ∨
       (t' < 0 ∧ ∃ x, Simp (-Rat.divInt t' l') (-Rat.divInt t l) x ∧ T = outT (-x) ∧ L = outL (-x) ∧ E = outE (-x)) ∨
       (0 < t ∧ ∃ x, Simp (Rat.divInt t l) (Rat.divInt t' l') x ∧ T = outT x ∧ L = outL x ∧ E = outE x)))))
def BtwR (t l t' l' : Int) (e : Ending) : Prop := ∃ T L E, NumR e T L E ∧ Btw t l t' l' T L E

theorem kdrew4 {w : World} {a1 a2 a3 a4 : Addr} {x1 x2 x3 x4 : Value} (h : w.cell? a1 = some x1 ∧ w.cell? a2 = some x2 ∧ w.cell? a3 = some x3 ∧ w.cell? a4 = some x4) : w.drew.cell? a1 = some x1 ∧ w.drew.cell? a2 = some x2 ∧ w.drew.cell? a3 = some x3 ∧ w.drew.cell? a4 = some x4 := h
theorem nb4 {w : World} {g g' : Nat} {a b a' b' : Value} {t t' : TypeId} (h : w.heap[g]? = some (.cells #[a, b] t (0, 0))) (k : w.heap[g']? = some (.cells #[a', b'] t' (0, 0))) : w.cell? ⟨g, 0, none⟩ = some a ∧ w.cell? ⟨g, 1, none⟩ = some b ∧ w.cell? ⟨g', 0, none⟩ = some a' ∧ w.cell? ⟨g', 1, none⟩ = some b' :=
  ⟨(bx2 h).1, (bx2 h).2.1, (bx2 k).1, (bx2 k).2.1⟩
theorem OkN.num {t l : Int} (h : OkN t l) : (Rat.divInt t l).num = t := (num_sz h).2.1

set_option maxHeartbeats 40000000 in
set_option maxRecDepth 100000 in
theorem nbetween_calls (t l t' l' : Int) (w : World) (h0 : -9223372036854775808 ≤ t) (h1 : t ≤ 9223372036854775807) (h2 : -9223372036854775808 ≤ l) (h3 : l ≤ 9223372036854775807) (h0' : -9223372036854775808 ≤ t') (h1' : t' ≤ 9223372036854775807) (h2' : -9223372036854775808 ≤ l') (h3' : l' ≤ 9223372036854775807) :
    Calls Tryd.prog 10 #[.agg #[.int .i64 t, .int .i64 l], .agg #[.int .i64 t', .int .i64 l']] w fun e w' => BtwR t l t' l' e ∧ Below w.heap.size w w' := by
  by_cases hv : OkN t l
  · by_cases hv' : OkN t' l'
    · have ok := Lib.hid (And.intro hv hv')
      have SQ := (num_sz hv).1
      have SR' := (num_sz hv').1
      have NQ := Lib.hid hv.num
      have NR := Lib.hid hv'.num
      replace hv := Lib.hid hv
      replace hv' := Lib.hid hv'
      go_enter Tryd.func10, Tryd.ntmps10
      go_wp2_with fail
      have B0 := bl_alloc (bl_alloc (bl_alloc (Below.refl w.heap.size w) (.cells #[.int .i64 t, .int .i64 l] 23)) (.cells #[.int .i64 t', .int .i64 l'] 23)) (.cells #[.int .i64 0, .int .i64 0] 23)
      have a1 : (((w.alloc (.cells #[.int .i64 t, .int .i64 l] 23)).alloc (.cells #[.int .i64 t', .int .i64 l'] 23)).alloc (.cells #[.int .i64 0, .int .i64 0] 23)).heap[w.heap.size]? = some (.cells #[.int .i64 t, .int .i64 l] 23 (0, 0)) := blk_alloc (blk_alloc (blk_at _ rfl) _) _
      have a2 : (((w.alloc (.cells #[.int .i64 t, .int .i64 l] 23)).alloc (.cells #[.int .i64 t', .int .i64 l'] 23)).alloc (.cells #[.int .i64 0, .int .i64 0] 23)).heap[w.heap.size + 1]? = some (.cells #[.int .i64 t', .int .i64 l'] 23 (0, 0)) := blk_alloc (blk_at _ (by simp)) _
      have a3 : (((w.alloc (.cells #[.int .i64 t, .int .i64 l] 23)).alloc (.cells #[.int .i64 t', .int .i64 l'] 23)).alloc (.cells #[.int .i64 0, .int .i64 0] 23)).heap[w.heap.size + 1 + 1]? = some (.cells #[.int .i64 0, .int .i64 0] 23 (0, 0)) := blk_at _ (by simp)
      generalize ((w.alloc (.cells #[.int .i64 t, .int .i64 l] 23)).alloc (.cells #[.int .i64 t', .int .i64 l'] 23)).alloc (.cells #[.int .i64 0, .int .i64 0] 23) = W0 at *
      refine (valid_calls t l _ h0 h1 h2 h3).mono ?_
      rintro e w1 ⟨rfl, hB1⟩
      rw [decide_eq_true hv.out]
      replace a1 := blk_below a1 hB1
      replace a2 := blk_below a2 hB1
      replace a3 := blk_below a3 hB1
      replace B0 := bl_then B0 hB1
      clear hB1
      obtain ⟨q1, q2, q3, q4⟩ := bx2 a2
      go_wp2_with fail
      refine (valid_calls t' l' _ h0' h1' h2' h3').mono ?_
      rintro e w2 ⟨rfl, hB2⟩
      rw [decide_eq_true hv'.out]
      replace a1 := blk_below a1 hB2
      replace a2 := blk_below a2 hB2
      replace a3 := blk_below a3 hB2
      replace B0 := bl_then B0 hB2
      clear hB2
      clear q1 q2 q3 q4
      have l3 := blk_lt a3
      obtain ⟨p1, p2, p3, p4⟩ := bx2 a1
      obtain ⟨q1, q2, q3, q4⟩ := bx2 a2
      have a1_0 := a1
      have a2_0 := a2
      have a3_0 := a3
      have HB_0 := B0
      go_upto_region 3 with (fail)
      go_cut [6, 7] (fun x y wc => ∃ (gx gy : Nat) (v1 : Int) (A1 : Option Addr) (n1 c1 : Nat) (v1' : Int) (A1' : Option Addr) (n1' c1' : Nat) (v2 : Int) (A2 : Option Addr) (n2 c2 : Nat) (v2' : Int) (A2' : Option Addr) (n2' c2' : Nat), x = .pointer (some ⟨gx, 0, none⟩) ∧ y = .pointer (some ⟨gy, 0, none⟩) ∧ RB wc (gx) v1 A1 n1 c1 v1' A1' n1' c1' (Rat.divInt t l) ∧ RB wc (gy) v2 A2 n2 c2 v2' A2' n2' c2' (Rat.divInt t' l') ∧ wc.heap[w.heap.size + 1 + 1]? = some (.cells #[.int .i64 0, .int .i64 0] 23 (0, 0)) ∧ Below w.heap.size w wc ∧ w.heap.size + 1 + 1 < gx ∧ w.heap.size + 1 + 1 < gy)
      case first =>
        go_region_held3 (fun W => W.cell? ⟨w.heap.size, 0, none⟩ = some (Value.int .i64 t) ∧ W.cell? ⟨w.heap.size, 1, none⟩ = some (Value.int .i64 l) ∧ W.cell? ⟨w.heap.size + 1, 0, none⟩ = some (Value.int .i64 t') ∧ W.cell? ⟨w.heap.size + 1, 1, none⟩ = some (Value.int .i64 l')) (first | with_reducible exact P2 | with_reducible exact P1 | ((repeat (first | with_reducible assumption | with_reducible exact P2 | with_reducible exact P1 | with_reducible refine keep4_al ?_ | (with_reducible refine keep4_stR ?_ ?_ ?_; rotate_left 1; (focus omega); (focus omega)))); done) | with_reducible exact kdrew4 ⟨p1, p2, q1, q2⟩ | go_keep) (first | (have _hh := HB_1; go_at_call_of 29 (Value.agg #[.int .i64 t', .int .i64 l']); refine (rat_calls t' l' _ h0' h1' h2' h3' (by have := hv'.out.1; omega)).mono ?_; rintro e ww2 ⟨⟨v2, A2, n2, c2, v2', A2', n2', c2', rfl, g2_2⟩, hB2⟩; have g1_2 : RatV ww2 v1 A1 n1 c1 v1' A1' n1' c1' (Rat.divInt t l) := (by repeat (first | with_reducible exact g1_1 | with_reducible refine RatV.below ?_ hB2 | with_reducible refine RatV.kp ?_ ((Kp.refl _ _).alloc _) | with_reducible refine RatV.kp ?_ (Kp.refl _ _).drew)); have sz2 := hB2.size; (try simp only [World.size_alloc, World.size_drew] at sz2); have a1_2 : ww2.heap[w.heap.size]? = some (.cells #[.int .i64 t, .int .i64 l] 23 (0, 0)) := (by repeat (first | with_reducible exact a1_1 | with_reducible refine blk_below ?_ hB2 | with_reducible refine blk_alloc ?_ _ | with_reducible refine blk_drew ?_)); have a2_2 : ww2.heap[w.heap.size + 1]? = some (.cells #[.int .i64 t', .int .i64 l'] 23 (0, 0)) := (by repeat (first | with_reducible exact a2_1 | with_reducible refine blk_below ?_ hB2 | with_reducible refine blk_alloc ?_ _ | with_reducible refine blk_drew ?_)); have a3_2 : ww2.heap[w.heap.size + 1 + 1]? = some (.cells #[.int .i64 0, .int .i64 0] 23 (0, 0)) := (by repeat (first | with_reducible exact a3_1 | with_reducible refine blk_below ?_ hB2 | with_reducible refine blk_alloc ?_ _ | with_reducible refine blk_drew ?_)); have HB_2 : Below w.heap.size w ww2 := (by repeat (first | with_reducible exact HB_1 | with_reducible refine bl_then ?_ hB2 | with_reducible refine bl_alloc ?_ _ | with_reducible refine bl_drew ?_)); have lt2 := blk_lt a3_2; have P2 := nb4 a1_2 a2_2; (first | (have F0 := blk_below E0 hB2; have F1 := blk_below E1 hB2; have G0 := bx4 (F0); obtain ⟨⟨g0_1, g0_2, g0_3, g0_4⟩, g0_5, g0_6, g0_7, g0_8⟩ := G0; have G1 := bx4 (F1); obtain ⟨⟨g1_1, g1_2, g1_3, g1_4⟩, g1_5, g1_6, g1_7, g1_8⟩ := G1; have O01 := bx4 (st_oldR (a := .int .i64 v1) (b := .slice A1 n1 c1) (c := .int .i64 v1') (d := .slice A1' n1' c1') (gq := w2.heap.size) F1 (Nat.ne_of_gt (Nat.lt_succ_self _))); obtain ⟨⟨o01_1, o01_2, o01_3, o01_4⟩, o01_5, o01_6, o01_7, o01_8⟩ := O01; have O10 := bx4 (st_oldR (a := .int .i64 v1) (b := .slice A1 n1 c1) (c := .int .i64 v1') (d := .slice A1' n1' c1') (gq := w2.heap.size + 1) F0 (Nat.ne_of_lt (Nat.lt_succ_self _))); obtain ⟨⟨o10_1, o10_2, o10_3, o10_4⟩, o10_5, o10_6, o10_7, o10_8⟩ := O10) | (have F0 := blk_below (blk_alloc E0 _) hB2; have F2 : ww2.heap[ww1.heap.size]? = some (.cells #[.int .i64 0, .slice none 0 0, .int .i64 0, .slice none 0 0] 46 (0, 0)) := blk_below (blk_at (W := ww1) _ rfl) hB2; have G0 := bx4 (F0); obtain ⟨⟨g0_1, g0_2, g0_3, g0_4⟩, g0_5, g0_6, g0_7, g0_8⟩ := G0; have G2 := bx4 (F2); obtain ⟨⟨g2_1, g2_2, g2_3, g2_4⟩, g2_5, g2_6, g2_7, g2_8⟩ := G2; have O02 := bx4 (st_oldR (a := .int .i64 v1) (b := .slice A1 n1 c1) (c := .int .i64 v1') (d := .slice A1' n1' c1') (gq := w2.heap.size) F2 (Nat.ne_of_gt (blk_lt E0))); obtain ⟨⟨o02_1, o02_2, o02_3, o02_4⟩, o02_5, o02_6, o02_7, o02_8⟩ := O02; have O20 := bx4 (st_oldR (a := .int .i64 v1) (b := .slice A1 n1 c1) (c := .int .i64 v1') (d := .slice A1' n1' c1') (gq := ww1.heap.size) F0 (Nat.ne_of_lt (blk_lt E0))); obtain ⟨⟨o20_1, o20_2, o20_3, o20_4⟩, o20_5, o20_6, o20_7, o20_8⟩ := O20) | (have F0 := blk_below E0 hB2; have H0 := bx4 (blk_alloc F0 (.cells #[.int .i64 0, .slice none 0 0, .int .i64 0, .slice none 0 0] 46)); obtain ⟨⟨h0_1, h0_2, h0_3, h0_4⟩, h0_5, h0_6, h0_7, h0_8⟩ := H0; have S0 := bx4 (st_freshR (a := .int .i64 v1) (b := .slice A1 n1 c1) (c := .int .i64 v1') (d := .slice A1' n1' c1') (c0 := .int .i64 0) (c1 := .slice none 0 0) (c2 := .int .i64 0) (c3 := .slice none 0 0) (t' := 46) F0); obtain ⟨⟨s0_1, s0_2, s0_3, s0_4⟩, s0_5, s0_6, s0_7, s0_8⟩ := S0; have M0 := bx4 (blk_alloc F0 (.cells #[.int .i64 v1, .slice A1 n1 c1, .int .i64 v1', .slice A1' n1' c1'] 46)); obtain ⟨⟨m0_1, m0_2, m0_3, m0_4⟩, m0_5, m0_6, m0_7, m0_8⟩ := M0) | (have F2 : ww2.heap[ww1.heap.size]? = some (.cells #[.int .i64 0, .slice none 0 0, .int .i64 0, .slice none 0 0] 46 (0, 0)) := blk_below (blk_alloc (blk_at (W := ww1) _ rfl) (.cells #[.int .i64 0, .slice none 0 0, .int .i64 0, .slice none 0 0] 46)) hB2; have F3 : ww2.heap[ww1.heap.size + 1]? = some (.cells #[.int .i64 0, .slice none 0 0, .int .i64 0, .slice none 0 0] 46 (0, 0)) := blk_below (blk_at (W := ww1.alloc (.cells #[.int .i64 0, .slice none 0 0, .int .i64 0, .slice none 0 0] 46)) _ (World.size_alloc _ _).symm) hB2; have G2 := bx4 (F2); obtain ⟨⟨g2_1, g2_2, g2_3, g2_4⟩, g2_5, g2_6, g2_7, g2_8⟩ := G2; have G3 := bx4 (F3); obtain ⟨⟨g3_1, g3_2, g3_3, g3_4⟩, g3_5, g3_6, g3_7, g3_8⟩ := G3; have O23 := bx4 (st_oldR (a := .int .i64 v1) (b := .slice A1 n1 c1) (c := .int .i64 v1') (d := .slice A1' n1' c1') (gq := ww1.heap.size) F3 (Nat.ne_of_gt (Nat.lt_succ_self _))); obtain ⟨⟨o23_1, o23_2, o23_3, o23_4⟩, o23_5, o23_6, o23_7, o23_8⟩ := O23; have O32 := bx4 (st_oldR (a := .int .i64 v1) (b := .slice A1 n1 c1) (c := .int .i64 v1') (d := .slice A1' n1' c1') (gq := ww1.heap.size + 1) F2 (Nat.ne_of_lt (Nat.lt_succ_self _))); obtain ⟨⟨o32_1, o32_2, o32_3, o32_4⟩, o32_5, o32_6, o32_7, o32_8⟩ := O32) | (have F2 : ww2.heap[ww1.heap.size]? = some (.cells #[.int .i64 0, .slice none 0 0, .int .i64 0, .slice none 0 0] 46 (0, 0)) := blk_below (blk_at (W := ww1) _ rfl) hB2; have H2 := bx4 (blk_alloc F2 (.cells #[.int .i64 0, .slice none 0 0, .int .i64 0, .slice none 0 0] 46)); obtain ⟨⟨h2_1, h2_2, h2_3, h2_4⟩, h2_5, h2_6, h2_7, h2_8⟩ := H2; have S2 := bx4 (st_freshR (a := .int .i64 v1) (b := .slice A1 n1 c1) (c := .int .i64 v1') (d := .slice A1' n1' c1') (c0 := .int .i64 0) (c1 := .slice none 0 0) (c2 := .int .i64 0) (c3 := .slice none 0 0) (t' := 46) F2); obtain ⟨⟨s2_1, s2_2, s2_3, s2_4⟩, s2_5, s2_6, s2_7, s2_8⟩ := S2; have M2 := bx4 (blk_alloc F2 (.cells #[.int .i64 v1, .slice A1 n1 c1, .int .i64 v1', .slice A1' n1' c1'] 46)); obtain ⟨⟨m2_1, m2_2, m2_3, m2_4⟩, m2_5, m2_6, m2_7, m2_8⟩ := M2) | skip)) | (go_at_call_of 29 (Value.agg #[.int .i64 t, .int .i64 l]); refine (rat_calls t l _ h0 h1 h2 h3 (by have := hv.out.1; omega)).mono ?_; rintro e ww1 ⟨⟨v1, A1, n1, c1, v1', A1', n1', c1', rfl, g1_1⟩, hB1⟩; have sz1 := hB1.size; (try simp only [World.size_alloc, World.size_drew] at sz1); have a1_1 : ww1.heap[w.heap.size]? = some (.cells #[.int .i64 t, .int .i64 l] 23 (0, 0)) := (by repeat (first | with_reducible exact a1_0 | with_reducible refine blk_below ?_ hB1 | with_reducible refine blk_alloc ?_ _ | with_reducible refine blk_drew ?_)); have a2_1 : ww1.heap[w.heap.size + 1]? = some (.cells #[.int .i64 t', .int .i64 l'] 23 (0, 0)) := (by repeat (first | with_reducible exact a2_0 | with_reducible refine blk_below ?_ hB1 | with_reducible refine blk_alloc ?_ _ | with_reducible refine blk_drew ?_)); have a3_1 : ww1.heap[w.heap.size + 1 + 1]? = some (.cells #[.int .i64 0, .int .i64 0] 23 (0, 0)) := (by repeat (first | with_reducible exact a3_0 | with_reducible refine blk_below ?_ hB1 | with_reducible refine blk_alloc ?_ _ | with_reducible refine blk_drew ?_)); have HB_1 : Below w.heap.size w ww1 := (by repeat (first | with_reducible exact HB_0 | with_reducible refine bl_then ?_ hB1 | with_reducible refine bl_alloc ?_ _ | with_reducible refine bl_drew ?_)); have lt1 := blk_lt a3_1; have P1 := nb4 a1_1 a2_1; (first | (have E0 : ww1.heap[w2.heap.size]? = some (.cells #[.int .i64 0, .slice none 0 0, .int .i64 0, .slice none 0 0] 46 (0, 0)) := blk_below (blk_alloc (blk_at (W := w2.drew) _ rfl) (.cells #[.int .i64 0, .slice none 0 0, .int .i64 0, .slice none 0 0] 46)) hB1; have E1 : ww1.heap[w2.heap.size + 1]? = some (.cells #[.int .i64 0, .slice none 0 0, .int .i64 0, .slice none 0 0] 46 (0, 0)) := blk_below (blk_at (W := w2.drew.alloc (.cells #[.int .i64 0, .slice none 0 0, .int .i64 0, .slice none 0 0] 46)) _ (World.size_alloc _ _).symm) hB1) | (have E0 : ww1.heap[w2.heap.size]? = some (.cells #[.int .i64 0, .slice none 0 0, .int .i64 0, .slice none 0 0] 46 (0, 0)) := blk_below (blk_at (W := w2.drew) _ rfl) hB1) | skip)) | fail)
        all_goals
          go_wp2
          go_meet
          case rel =>
            refine ⟨_, _, v1, A1, n1, c1, v1', A1', n1', c1', v2, A2, n2, c2, v2', A2', n2', c2', rfl, rfl, ?_, ?_, ?_, ?_, ?_, ?_⟩
            · repeat (first | with_reducible exact F0 | with_reducible exact F1 | with_reducible exact F2 | with_reducible exact F3 | with_reducible exact a3_2 | with_reducible exact g1_2 | with_reducible exact g2_2 | with_reducible exact HB_2 | with_reducible rfl | (with_reducible refine RB.put ?_ (a := .int .i64 0) (b := .slice none 0 0) (d := .int .i64 0) (e := .slice none 0 0) ?_) | (with_reducible refine RB.new _ ?_ rfl) | (with_reducible refine RB.new _ ?_ (World.size_alloc _ _).symm) | (with_reducible refine RB.set4 ?_ (a := .int .i64 0) (b := .slice none 0 0) (d := .int .i64 0) (e := .slice none 0 0) ?_ ?_ _ _ _ _; rotate_left 2; (focus (first | omega | (simp; omega))); rotate_right 1) | with_reducible refine RB.alloc ?_ _ | (with_reducible refine blk_far4 ?_ ?_ _ _ _ _; rotate_left 1; (focus (first | omega | (simp; omega)))) | (with_reducible refine blk_at _ ?_; (first | rfl | (simp; done))) | with_reducible refine blk_alloc ?_ _ | with_reducible refine RatV.kp ?_ ((Kp.refl _ _).alloc _) | (with_reducible refine RatV.kp ?_ (kp_setR (a := .int .i64 0) (b := .slice none 0 0) (d := .int .i64 0) (e := .slice none 0 0) ?_ _ _ _ _)) | (with_reducible refine bl_set4 ?_ ?_ _ _ _ _; rotate_left 1; (focus (first | omega | (simp; omega)))) | with_reducible refine bl_alloc ?_ _ | (focus (first | omega | (simp; omega))))
            · repeat (first | with_reducible exact F0 | with_reducible exact F1 | with_reducible exact F2 | with_reducible exact F3 | with_reducible exact a3_2 | with_reducible exact g1_2 | with_reducible exact g2_2 | with_reducible exact HB_2 | with_reducible rfl | (with_reducible refine RB.put ?_ (a := .int .i64 0) (b := .slice none 0 0) (d := .int .i64 0) (e := .slice none 0 0) ?_) | (with_reducible refine RB.new _ ?_ rfl) | (with_reducible refine RB.new _ ?_ (World.size_alloc _ _).symm) | (with_reducible refine RB.set4 ?_ (a := .int .i64 0) (b := .slice none 0 0) (d := .int .i64 0) (e := .slice none 0 0) ?_ ?_ _ _ _ _; rotate_left 2; (focus (first | omega | (simp; omega))); rotate_right 1) | with_reducible refine RB.alloc ?_ _ | (with_reducible refine blk_far4 ?_ ?_ _ _ _ _; rotate_left 1; (focus (first | omega | (simp; omega)))) | (with_reducible refine blk_at _ ?_; (first | rfl | (simp; done))) | with_reducible refine blk_alloc ?_ _ | with_reducible refine RatV.kp ?_ ((Kp.refl _ _).alloc _) | (with_reducible refine RatV.kp ?_ (kp_setR (a := .int .i64 0) (b := .slice none 0 0) (d := .int .i64 0) (e := .slice none 0 0) ?_ _ _ _ _)) | (with_reducible refine bl_set4 ?_ ?_ _ _ _ _; rotate_left 1; (focus (first | omega | (simp; omega)))) | with_reducible refine bl_alloc ?_ _ | (focus (first | omega | (simp; omega))))
            · repeat (first | with_reducible exact F0 | with_reducible exact F1 | with_reducible exact F2 | with_reducible exact F3 | with_reducible exact a3_2 | with_reducible exact g1_2 | with_reducible exact g2_2 | with_reducible exact HB_2 | with_reducible rfl | (with_reducible refine RB.put ?_ (a := .int .i64 0) (b := .slice none 0 0) (d := .int .i64 0) (e := .slice none 0 0) ?_) | (with_reducible refine RB.new _ ?_ rfl) | (with_reducible refine RB.new _ ?_ (World.size_alloc _ _).symm) | (with_reducible refine RB.set4 ?_ (a := .int .i64 0) (b := .slice none 0 0) (d := .int .i64 0) (e := .slice none 0 0) ?_ ?_ _ _ _ _; rotate_left 2; (focus (first | omega | (simp; omega))); rotate_right 1) | with_reducible refine RB.alloc ?_ _ | (with_reducible refine blk_far4 ?_ ?_ _ _ _ _; rotate_left 1; (focus (first | omega | (simp; omega)))) | (with_reducible refine blk_at _ ?_; (first | rfl | (simp; done))) | with_reducible refine blk_alloc ?_ _ | with_reducible refine RatV.kp ?_ ((Kp.refl _ _).alloc _) | (with_reducible refine RatV.kp ?_ (kp_setR (a := .int .i64 0) (b := .slice none 0 0) (d := .int .i64 0) (e := .slice none 0 0) ?_ _ _ _ _)) | (with_reducible refine bl_set4 ?_ ?_ _ _ _ _; rotate_left 1; (focus (first | omega | (simp; omega)))) | with_reducible refine bl_alloc ?_ _ | (focus (first | omega | (simp; omega))))
            · repeat (first | with_reducible exact F0 | with_reducible exact F1 | with_reducible exact F2 | with_reducible exact F3 | with_reducible exact a3_2 | with_reducible exact g1_2 | with_reducible exact g2_2 | with_reducible exact HB_2 | with_reducible rfl | (with_reducible refine RB.put ?_ (a := .int .i64 0) (b := .slice none 0 0) (d := .int .i64 0) (e := .slice none 0 0) ?_) | (with_reducible refine RB.new _ ?_ rfl) | (with_reducible refine RB.new _ ?_ (World.size_alloc _ _).symm) | (with_reducible refine RB.set4 ?_ (a := .int .i64 0) (b := .slice none 0 0) (d := .int .i64 0) (e := .slice none 0 0) ?_ ?_ _ _ _ _; rotate_left 2; (focus (first | omega | (simp; omega))); rotate_right 1) | with_reducible refine RB.alloc ?_ _ | (with_reducible refine blk_far4 ?_ ?_ _ _ _ _; rotate_left 1; (focus (first | omega | (simp; omega)))) | (with_reducible refine blk_at _ ?_; (first | rfl | (simp; done))) | with_reducible refine blk_alloc ?_ _ | with_reducible refine RatV.kp ?_ ((Kp.refl _ _).alloc _) | (with_reducible refine RatV.kp ?_ (kp_setR (a := .int .i64 0) (b := .slice none 0 0) (d := .int .i64 0) (e := .slice none 0 0) ?_ _ _ _ _)) | (with_reducible refine bl_set4 ?_ ?_ _ _ _ _; rotate_left 1; (focus (first | omega | (simp; omega)))) | with_reducible refine bl_alloc ?_ _ | (focus (first | omega | (simp; omega))))
            · first | omega | (simp; omega)
            · first | omega | (simp; omega)
      case rest =>
        clear a1 a2 a3 a1_0 a2_0 a3_0 HB_0 B0 p1 p2 p3 p4 q1 q2 q3 q4 l3
        obtain ⟨gx, gy, v1, A1, n1, c1, v1', A1', n1', c1', v2, A2, n2, c2, v2', A2', n2', c2', rfl, rfl, R1, R2, a3, B0, lx, ly⟩ := hcut
        generalize hq : Rat.divInt t l = q at *
        generalize hr : Rat.divInt t' l' = r at *
        have HQ := Lib.hid hq
        have HR := Lib.hid hr
        clear hq hr
        obtain ⟨⟨p1, p2, p3, p4⟩, p5, p6, p7, p8⟩ := bx4 R1.1
        obtain ⟨⟨r1, r2, r3, r4⟩, r5, r6, r7, r8⟩ := bx4 R2.1
        go_wp2_with fail
        refine (rcmp_calls v1 A1 n1 c1 v1' A1' n1' c1' q v2 A2 n2 c2 v2' A2' n2' c2' r _ R1.2 R2.2 64 SQ SR' (by omega)).mono ?_
        rintro e w3 ⟨rfl, hB3⟩
        clear p1 p2 p3 p4 p5 p6 p7 p8 r1 r2 r3 r4 r5 r6 r7 r8
        replace R1 := R1.below hB3
        replace R2 := R2.below hB3
        replace a3 := blk_below a3 hB3
        replace B0 := bl_then B0 hB3
        clear hB3
        by_cases hx : q ≤ r
        · have hs : (q - r).num.sign ≤ 0 := (sub_sign_le _ _).2 hx
          replace hx := Lib.hid hx
          generalize (q - r).num.sign = sg at *
          obtain ⟨⟨p1, p2, p3, p4⟩, p5, p6, p7, p8⟩ := bx4 R1.1
          go_wp2_with fail
          refine (rsign_calls v1 A1 n1 c1 v1' A1' n1' c1' q _ R1.2).mono ?_
          rintro e w4 ⟨rfl, hB4⟩
          rw [NQ.out]
          clear p1 p2 p3 p4 p5 p6 p7 p8
          replace R1 := R1.below hB4
          replace R2 := R2.below hB4
          replace a3 := blk_below a3 hB4
          replace B0 := bl_then B0 hB4
          clear hB4
          by_cases ht : t ≤ 0
          · have hs1 : t.sign ≤ 0 := sign_le'.2 ht
            generalize t.sign = sg1 at *
            obtain ⟨⟨p1, p2, p3, p4⟩, p5, p6, p7, p8⟩ := bx4 R2.1
            go_wp2_with fail
            refine (rsign_calls v2 A2 n2 c2 v2' A2' n2' c2' r _ R2.2).mono ?_
            rintro e w5 ⟨rfl, hB5⟩
            rw [NR.out]
            clear p1 p2 p3 p4 p5 p6 p7 p8
            replace R1 := R1.below hB5
            replace R2 := R2.below hB5
            replace a3 := blk_below a3 hB5
            replace B0 := bl_then B0 hB5
            clear hB5
            by_cases ht' : 0 ≤ t'
            · have hs2 : 0 ≤ t'.sign := sign_ge'.2 ht'
              generalize t'.sign = sg2 at *
              clear hs R1 R2
              obtain ⟨z1, z2, z3, z4⟩ := bx2 a3
              go_wp2
              refine bodyPost_ret (results_cell_tmp_row rfl _ _ (w.heap.size + 1 + 1) 23 #[.int .i64 0, .int .i64 1] (0, 0) _ _ rfl (by first | exact a3 | exact blk_set2 a3 _ _) Tryd.underlying23 rfl (by kernel_rfl) rfl) rfl ?_
              exact ⟨⟨_, _, _, rfl, by rw [← HQ.out, ← HR.out] at hx; exact .inr ⟨ok.out, .inr ⟨hx.out, .inl ⟨ht, ht', rfl, rfl, rfl⟩⟩⟩⟩, by first | exact B0 | exact bl_set (bl_set B0 (by show w.heap.size ≤ w.heap.size + 1 + 1; omega) _) (by show w.heap.size ≤ w.heap.size + 1 + 1; omega) _⟩
            · have hs2 : ¬ 0 ≤ t'.sign := fun h => ht' (sign_ge'.1 h)
              have hs3 : t'.sign < 0 := by omega
              generalize hsg : t'.sign = sg2 at *
              have HSG := Lib.hid hsg
              clear hsg
              have NG0 := Lib.hid (show 0 ≤ (-r).num ∧ -r ≤ -q from ⟨by rw [Rat.neg_num, NR.out]; omega, Rat.neg_le_neg hx.out⟩)
              obtain ⟨⟨p1, p2, p3, p4⟩, p5, p6, p7, p8⟩ := bx4 R2.1
              go_wp2_with fail
              refine (rsign_calls v2 A2 n2 c2 v2' A2' n2' c2' r _ R2.2).mono ?_
              rintro e w8 ⟨rfl, hB8⟩
              rw [NR.out, HSG.out]
              clear p1 p2 p3 p4 p5 p6 p7 p8
              replace R1 := R1.below hB8
              replace R2 := R2.below hB8
              replace a3 := blk_below a3 hB8
              replace B0 := bl_then B0 hB8
              clear hB8
              obtain ⟨⟨p1, p2, p3, p4⟩, p5, p6, p7, p8⟩ := bx4 R1.1
              obtain ⟨⟨r1, r2, r3, r4⟩, r5, r6, r7, r8⟩ := bx4 R2.1
              have R1_0 := R1
              have R2_0 := R2
              have a3_0 := a3
              have HB_0 := B0
              go_wp2_with fail
              go_region_held3 (fun W => W.cell? ⟨gx, 0, none⟩ = some (Value.int .i64 v1) ∧ W.cell? ⟨gx, 1, none⟩ = some (Value.slice A1 n1 c1) ∧ W.cell? ⟨gx, 2, none⟩ = some (Value.int .i64 v1') ∧ W.cell? ⟨gx, 3, none⟩ = some (Value.slice A1' n1' c1') ∧ W.cell? ⟨gy, 0, none⟩ = some (Value.int .i64 v2) ∧ W.cell? ⟨gy, 1, none⟩ = some (Value.slice A2 n2 c2) ∧ W.cell? ⟨gy, 2, none⟩ = some (Value.int .i64 v2') ∧ W.cell? ⟨gy, 3, none⟩ = some (Value.slice A2' n2' c2')) (first | with_reducible exact P5 | with_reducible exact P4 | with_reducible exact P3 | with_reducible exact P2 | with_reducible exact P1 | with_reducible exact keep8_st2 P5 (by omega) (by omega) | exact ⟨p1, p2, p3, p4, r1, r2, r3, r4⟩ | go_keep) (first | (have _hh := HB_4; go_at_call 20; refine (out_calls v6 A6 n6 c6 v6' A6' n6' c6' (-xx) _ (by repeat (first | with_reducible exact t4_4 | with_reducible refine RatV.kp ?_ ((Kp.refl _ _).alloc _) | with_reducible refine RatV.kp ?_ (Kp.refl _ _).drew))).mono ?_; rintro e ww5 ⟨he5, hB5⟩; unfold NumR at he5; generalize hT : outT (-xx) = oT at *; generalize hL : outL (-xx) = oL at *; generalize hE : outE (-xx) = oE at *; have HT := Lib.hid hT; have HL := Lib.hid hL; have HE := Lib.hid hE; clear hT hL hE; subst he5; have sz5 := hB5.size; (try simp only [World.size_alloc, World.size_drew] at sz5); have R1_5 : RB ww5 (gx) v1 A1 n1 c1 v1' A1' n1' c1' (q) := (by repeat (first | with_reducible exact R1_4 | with_reducible refine RB.below ?_ hB5 | with_reducible refine RB.alloc ?_ _ | with_reducible refine RB.drew ?_)); have R2_5 : RB ww5 (gy) v2 A2 n2 c2 v2' A2' n2' c2' (r) := (by repeat (first | with_reducible exact R2_4 | with_reducible refine RB.below ?_ hB5 | with_reducible refine RB.alloc ?_ _ | with_reducible refine RB.drew ?_)); have a3_5 : ww5.heap[w.heap.size + 1 + 1]? = some (.cells #[.int .i64 0, .int .i64 0] 23 (0, 0)) := (by repeat (first | with_reducible exact a3_4 | with_reducible refine blk_below ?_ hB5 | with_reducible refine blk_alloc ?_ _ | with_reducible refine blk_drew ?_)); have t1_5 : RatV ww5 v3 A3 n3 c3 v3' A3' n3' c3' (-r) := (by repeat (first | with_reducible exact t1_4 | with_reducible refine RatV.below ?_ hB5 | with_reducible refine RatV.kp ?_ ((Kp.refl _ _).alloc _) | with_reducible refine RatV.kp ?_ (Kp.refl _ _).drew)); have t2_5 : RatV ww5 v4 A4 n4 c4 v4' A4' n4' c4' (-q) := (by repeat (first | with_reducible exact t2_4 | with_reducible refine RatV.below ?_ hB5 | with_reducible refine RatV.kp ?_ ((Kp.refl _ _).alloc _) | with_reducible refine RatV.kp ?_ (Kp.refl _ _).drew)); have t3_5 : RatV ww5 v5 A5 n5 c5 v5' A5' n5' c5' xx := (by repeat (first | with_reducible exact t3_4 | with_reducible refine RatV.below ?_ hB5 | with_reducible refine RatV.kp ?_ ((Kp.refl _ _).alloc _) | with_reducible refine RatV.kp ?_ (Kp.refl _ _).drew)); have t4_5 : RatV ww5 v6 A6 n6 c6 v6' A6' n6' c6' (-xx) := (by repeat (first | with_reducible exact t4_4 | with_reducible refine RatV.below ?_ hB5 | with_reducible refine RatV.kp ?_ ((Kp.refl _ _).alloc _) | with_reducible refine RatV.kp ?_ (Kp.refl _ _).drew)); have HB_5 : Below w.heap.size w ww5 := (by repeat (first | with_reducible exact HB_4 | with_reducible refine bl_then ?_ hB5 | with_reducible refine bl_alloc ?_ _ | with_reducible refine bl_drew ?_)); have P5 := j4 (RB.s4 R1_5) (RB.s4 R2_5); obtain ⟨z1, z2, z3, z4⟩ := bx2 a3_5) | (have _hh := HB_3; go_at_call 33; refine (rneg_calls v5 A5 n5 c5 v5' A5' n5' c5' xx _ (by repeat (first | with_reducible exact t3_3 | with_reducible refine RatV.kp ?_ ((Kp.refl _ _).alloc _) | with_reducible refine RatV.kp ?_ (Kp.refl _ _).drew))).mono ?_; rintro e ww4 ⟨⟨v6, A6, n6, c6, v6', A6', n6', c6', rfl, t4_4⟩, hB4⟩; have sz4 := hB4.size; (try simp only [World.size_alloc, World.size_drew] at sz4); have R1_4 : RB ww4 (gx) v1 A1 n1 c1 v1' A1' n1' c1' (q) := (by repeat (first | with_reducible exact R1_3 | with_reducible refine RB.below ?_ hB4 | with_reducible refine RB.alloc ?_ _ | with_reducible refine RB.drew ?_)); have R2_4 : RB ww4 (gy) v2 A2 n2 c2 v2' A2' n2' c2' (r) := (by repeat (first | with_reducible exact R2_3 | with_reducible refine RB.below ?_ hB4 | with_reducible refine RB.alloc ?_ _ | with_reducible refine RB.drew ?_)); have a3_4 : ww4.heap[w.heap.size + 1 + 1]? = some (.cells #[.int .i64 0, .int .i64 0] 23 (0, 0)) := (by repeat (first | with_reducible exact a3_3 | with_reducible refine blk_below ?_ hB4 | with_reducible refine blk_alloc ?_ _ | with_reducible refine blk_drew ?_)); have t1_4 : RatV ww4 v3 A3 n3 c3 v3' A3' n3' c3' (-r) := (by repeat (first | with_reducible exact t1_3 | with_reducible refine RatV.below ?_ hB4 | with_reducible refine RatV.kp ?_ ((Kp.refl _ _).alloc _) | with_reducible refine RatV.kp ?_ (Kp.refl _ _).drew)); have t2_4 : RatV ww4 v4 A4 n4 c4 v4' A4' n4' c4' (-q) := (by repeat (first | with_reducible exact t2_3 | with_reducible refine RatV.below ?_ hB4 | with_reducible refine RatV.kp ?_ ((Kp.refl _ _).alloc _) | with_reducible refine RatV.kp ?_ (Kp.refl _ _).drew)); have t3_4 : RatV ww4 v5 A5 n5 c5 v5' A5' n5' c5' xx := (by repeat (first | with_reducible exact t3_3 | with_reducible refine RatV.below ?_ hB4 | with_reducible refine RatV.kp ?_ ((Kp.refl _ _).alloc _) | with_reducible refine RatV.kp ?_ (Kp.refl _ _).drew)); have HB_4 : Below w.heap.size w ww4 := (by repeat (first | with_reducible exact HB_3 | with_reducible refine bl_then ?_ hB4 | with_reducible refine bl_alloc ?_ _ | with_reducible refine bl_drew ?_)); have P4 := j4 (RB.s4 R1_4) (RB.s4 R2_4)) | (have _hh := HB_2; go_at_call 32; refine (nsimplest_calls _ v3 A3 n3 c3 v3' A3' n3' c3' (-r) v4 A4 n4 c4 v4' A4' n4' c4' (-q) _ (by repeat (first | with_reducible exact t1_2 | with_reducible refine RatV.kp ?_ ((Kp.refl _ _).alloc _) | with_reducible refine RatV.kp ?_ (Kp.refl _ _).drew)) (by repeat (first | with_reducible exact t2_2 | with_reducible refine RatV.kp ?_ ((Kp.refl _ _).alloc _) | with_reducible refine RatV.kp ?_ (Kp.refl _ _).drew)) NG0.out.1 NG0.out.2 SR'.neg SQ.neg (Nat.le_refl _)).mono ?_; rintro e ww3 ⟨⟨xx, hxx, v5, A5, n5, c5, v5', A5', n5', c5', rfl, t3_3⟩, hB3⟩; have HXX := Lib.hid hxx; clear hxx; have sz3 := hB3.size; (try simp only [World.size_alloc, World.size_drew] at sz3); have R1_3 : RB ww3 (gx) v1 A1 n1 c1 v1' A1' n1' c1' (q) := (by repeat (first | with_reducible exact R1_2 | with_reducible refine RB.below ?_ hB3 | with_reducible refine RB.alloc ?_ _ | with_reducible refine RB.drew ?_)); have R2_3 : RB ww3 (gy) v2 A2 n2 c2 v2' A2' n2' c2' (r) := (by repeat (first | with_reducible exact R2_2 | with_reducible refine RB.below ?_ hB3 | with_reducible refine RB.alloc ?_ _ | with_reducible refine RB.drew ?_)); have a3_3 : ww3.heap[w.heap.size + 1 + 1]? = some (.cells #[.int .i64 0, .int .i64 0] 23 (0, 0)) := (by repeat (first | with_reducible exact a3_2 | with_reducible refine blk_below ?_ hB3 | with_reducible refine blk_alloc ?_ _ | with_reducible refine blk_drew ?_)); have t1_3 : RatV ww3 v3 A3 n3 c3 v3' A3' n3' c3' (-r) := (by repeat (first | with_reducible exact t1_2 | with_reducible refine RatV.below ?_ hB3 | with_reducible refine RatV.kp ?_ ((Kp.refl _ _).alloc _) | with_reducible refine RatV.kp ?_ (Kp.refl _ _).drew)); have t2_3 : RatV ww3 v4 A4 n4 c4 v4' A4' n4' c4' (-q) := (by repeat (first | with_reducible exact t2_2 | with_reducible refine RatV.below ?_ hB3 | with_reducible refine RatV.kp ?_ ((Kp.refl _ _).alloc _) | with_reducible refine RatV.kp ?_ (Kp.refl _ _).drew)); have HB_3 : Below w.heap.size w ww3 := (by repeat (first | with_reducible exact HB_2 | with_reducible refine bl_then ?_ hB3 | with_reducible refine bl_alloc ?_ _ | with_reducible refine bl_drew ?_)); have P3 := j4 (RB.s4 R1_3) (RB.s4 R2_3)) | (have _hh := HB_1; go_at_call_of 33 (Value.agg #[.int .i64 v1, .slice A1 n1 c1, .int .i64 v1', .slice A1' n1' c1']); refine (rneg_calls v1 A1 n1 c1 v1' A1' n1' c1' q _ (by repeat (first | with_reducible exact RB.val R1_1 | with_reducible refine RatV.kp ?_ ((Kp.refl _ _).alloc _) | with_reducible refine RatV.kp ?_ (Kp.refl _ _).drew))).mono ?_; rintro e ww2 ⟨⟨v4, A4, n4, c4, v4', A4', n4', c4', rfl, t2_2⟩, hB2⟩; have sz2 := hB2.size; (try simp only [World.size_alloc, World.size_drew] at sz2); have R1_2 : RB ww2 (gx) v1 A1 n1 c1 v1' A1' n1' c1' (q) := (by repeat (first | with_reducible exact R1_1 | with_reducible refine RB.below ?_ hB2 | with_reducible refine RB.alloc ?_ _ | with_reducible refine RB.drew ?_)); have R2_2 : RB ww2 (gy) v2 A2 n2 c2 v2' A2' n2' c2' (r) := (by repeat (first | with_reducible exact R2_1 | with_reducible refine RB.below ?_ hB2 | with_reducible refine RB.alloc ?_ _ | with_reducible refine RB.drew ?_)); have a3_2 : ww2.heap[w.heap.size + 1 + 1]? = some (.cells #[.int .i64 0, .int .i64 0] 23 (0, 0)) := (by repeat (first | with_reducible exact a3_1 | with_reducible refine blk_below ?_ hB2 | with_reducible refine blk_alloc ?_ _ | with_reducible refine blk_drew ?_)); have t1_2 : RatV ww2 v3 A3 n3 c3 v3' A3' n3' c3' (-r) := (by repeat (first | with_reducible exact t1_1 | with_reducible refine RatV.below ?_ hB2 | with_reducible refine RatV.kp ?_ ((Kp.refl _ _).alloc _) | with_reducible refine RatV.kp ?_ (Kp.refl _ _).drew)); have HB_2 : Below w.heap.size w ww2 := (by repeat (first | with_reducible exact HB_1 | with_reducible refine bl_then ?_ hB2 | with_reducible refine bl_alloc ?_ _ | with_reducible refine bl_drew ?_)); have P2 := j4 (RB.s4 R1_2) (RB.s4 R2_2)) | (go_at_call_of 33 (Value.agg #[.int .i64 v2, .slice A2 n2 c2, .int .i64 v2', .slice A2' n2' c2']); refine (rneg_calls v2 A2 n2 c2 v2' A2' n2' c2' r _ (by repeat (first | with_reducible exact RB.val R2_0 | with_reducible refine RatV.kp ?_ ((Kp.refl _ _).alloc _) | with_reducible refine RatV.kp ?_ (Kp.refl _ _).drew))).mono ?_; rintro e ww1 ⟨⟨v3, A3, n3, c3, v3', A3', n3', c3', rfl, t1_1⟩, hB1⟩; have sz1 := hB1.size; (try simp only [World.size_alloc, World.size_drew] at sz1); have R1_1 : RB ww1 (gx) v1 A1 n1 c1 v1' A1' n1' c1' (q) := (by repeat (first | with_reducible exact R1_0 | with_reducible refine RB.below ?_ hB1 | with_reducible refine RB.alloc ?_ _ | with_reducible refine RB.drew ?_)); have R2_1 : RB ww1 (gy) v2 A2 n2 c2 v2' A2' n2' c2' (r) := (by repeat (first | with_reducible exact R2_0 | with_reducible refine RB.below ?_ hB1 | with_reducible refine RB.alloc ?_ _ | with_reducible refine RB.drew ?_)); have a3_1 : ww1.heap[w.heap.size + 1 + 1]? = some (.cells #[.int .i64 0, .int .i64 0] 23 (0, 0)) := (by repeat (first | with_reducible exact a3_0 | with_reducible refine blk_below ?_ hB1 | with_reducible refine blk_alloc ?_ _ | with_reducible refine blk_drew ?_)); have HB_1 : Below w.heap.size w ww1 := (by repeat (first | with_reducible exact HB_0 | with_reducible refine bl_then ?_ hB1 | with_reducible refine bl_alloc ?_ _ | with_reducible refine bl_drew ?_)); have P1 := j4 (RB.s4 R1_1) (RB.s4 R2_1)) | fail)
              all_goals
                go_wp2
                refine bodyPost_ret (results_cell_tmp_row rfl _ _ (w.heap.size + 1 + 1) 23 #[.int .i64 oT, .int .i64 oL] (0, 0) _ _ rfl (by exact blk_set2 a3_5 _ _) Tryd.underlying23 rfl (by kernel_rfl) rfl) rfl ?_
                exact ⟨⟨_, _, _, rfl, by rw [← HQ.out, ← HR.out] at hx HXX; exact .inr ⟨ok.out, .inr ⟨hx.out, .inr (.inl ⟨by omega, xx, HXX.out, HT.out.symm, HL.out.symm, HE.out.symm⟩)⟩⟩⟩, bl_set (bl_set HB_5 (by show w.heap.size ≤ w.heap.size + 1 + 1; omega) _) (by show w.heap.size ≤ w.heap.size + 1 + 1; omega) _⟩
          · have hs1 : ¬ t.sign ≤ 0 := fun h => ht (sign_le'.1 h)
            generalize t.sign = sg1 at *
            obtain ⟨⟨p1, p2, p3, p4⟩, p5, p6, p7, p8⟩ := bx4 R2.1
            go_wp2_with fail
            refine (rsign_calls v2 A2 n2 c2 v2' A2' n2' c2' r _ R2.2).mono ?_
            rintro e w5 ⟨rfl, hB5⟩
            rw [NR.out]
            clear p1 p2 p3 p4 p5 p6 p7 p8
            replace R1 := R1.below hB5
            replace R2 := R2.below hB5
            replace a3 := blk_below a3 hB5
            replace B0 := bl_then B0 hB5
            clear hB5
            have ht' : 0 < t' := by
              have e1 := hx.out
              have d1 := den_pos' q
              have d2 := den_pos' r
              rw [Rat.le_iff, NQ.out, NR.out] at e1
              rcases Int.lt_or_le 0 t' with h | h
              · exact h
              · have := Int.mul_nonpos_of_nonpos_of_nonneg h (show 0 ≤ (q.den : Int) by omega)
                have := Int.mul_pos (show 0 < t by omega) d2
                omega
            have hs2 : ¬ t'.sign < 0 := by rw [Int.sign_neg_iff]; omega
            generalize t'.sign = sg2 at *
            obtain ⟨⟨p1, p2, p3, p4⟩, p5, p6, p7, p8⟩ := bx4 R1.1
            obtain ⟨⟨r1, r2, r3, r4⟩, r5, r6, r7, r8⟩ := bx4 R2.1
            go_wp2_with fail
            refine (nsimplest_calls _ v1 A1 n1 c1 v1' A1' n1' c1' q v2 A2 n2 c2 v2' A2' n2' c2' r _ R1.2 R2.2 (by rw [NQ.out]; omega) hx.out SQ SR' (Nat.le_refl _)).mono ?_
            rintro e w6 ⟨⟨xx, hxx, v3, A3, n3, c3, v3', A3', n3', c3', rfl, g3⟩, hB6⟩
            have HXX := Lib.hid hxx
            clear hxx R1 R2
            clear p1 p2 p3 p4 p5 p6 p7 p8 r1 r2 r3 r4 r5 r6 r7 r8
            replace a3 := blk_below a3 hB6
            replace B0 := bl_then B0 hB6
            clear hB6
            generalize hT : outT xx = oT
            generalize hL : outL xx = oL
            generalize hE : outE xx = oE
            replace hT := Lib.hid hT
            replace hL := Lib.hid hL
            replace hE := Lib.hid hE
            go_wp2_with fail
            refine (out_calls v3 A3 n3 c3 v3' A3' n3' c3' xx _ g3).mono ?_
            rintro e w7 ⟨he, hB7⟩
            rw [hT.out, hL.out, hE.out] at he
            unfold NumR at he
            subst he
            replace a3 := blk_below a3 hB7
            replace B0 := bl_then B0 hB7
            clear hB7
            obtain ⟨z1, z2, z3, z4⟩ := bx2 a3
            go_wp2
            refine bodyPost_ret (results_cell_tmp_row rfl _ _ (w.heap.size + 1 + 1) 23 #[.int .i64 oT, .int .i64 oL] (0, 0) _ _ rfl (by exact blk_set2 a3 _ _) Tryd.underlying23 rfl (by kernel_rfl) rfl) rfl ?_
            exact ⟨⟨_, _, _, rfl, by rw [← HQ.out, ← HR.out] at hx HXX; exact .inr ⟨ok.out, .inr ⟨hx.out, .inr (.inr ⟨by omega, xx, HXX.out, hT.out.symm, hL.out.symm, hE.out.symm⟩)⟩⟩⟩, by first | exact B0 | exact bl_set (bl_set B0 (by show w.heap.size ≤ w.heap.size + 1 + 1; omega) _) (by show w.heap.size ≤ w.heap.size + 1 + 1; omega) _⟩
        · have hs : ¬ (q - r).num.sign ≤ 0 := fun h => hx ((sub_sign_le _ _).1 h)
          replace hx := Lib.hid hx
          generalize (q - r).num.sign = sg at *
          clear R1 R2
          obtain ⟨z1, z2, z3, z4⟩ := bx2 a3
          go_wp2
          refine bodyPost_ret (results_cell_tmp_row rfl _ _ (w.heap.size + 1 + 1) 23 #[.int .i64 0, .int .i64 0] (0, 0) _ _ rfl (by first | exact a3 | exact blk_set2 a3 _ _) Tryd.underlying23 rfl (by kernel_rfl) rfl) rfl ?_
          exact ⟨⟨_, _, _, rfl, by rw [← HQ.out, ← HR.out] at hx; exact .inr ⟨ok.out, .inl ⟨hx.out, rfl, rfl, rfl⟩⟩⟩, by first | exact B0 | exact bl_set (bl_set B0 (by show w.heap.size ≤ w.heap.size + 1 + 1; omega) _) (by show w.heap.size ≤ w.heap.size + 1 + 1; omega) _⟩
    · have e2 : Hid (¬ (OkN t l ∧ OkN t' l')) := Lib.hid (fun h => hv' h.2)
      replace hv := Lib.hid hv
      replace hv' := Lib.hid hv'
      go_enter Tryd.func10, Tryd.ntmps10
      go_wp2_with fail
      have B0 := bl_alloc (bl_alloc (bl_alloc (Below.refl w.heap.size w) (.cells #[.int .i64 t, .int .i64 l] 23)) (.cells #[.int .i64 t', .int .i64 l'] 23)) (.cells #[.int .i64 0, .int .i64 0] 23)
      have a1 : (((w.alloc (.cells #[.int .i64 t, .int .i64 l] 23)).alloc (.cells #[.int .i64 t', .int .i64 l'] 23)).alloc (.cells #[.int .i64 0, .int .i64 0] 23)).heap[w.heap.size]? = some (.cells #[.int .i64 t, .int .i64 l] 23 (0, 0)) := blk_alloc (blk_alloc (blk_at _ rfl) _) _
      have a2 : (((w.alloc (.cells #[.int .i64 t, .int .i64 l] 23)).alloc (.cells #[.int .i64 t', .int .i64 l'] 23)).alloc (.cells #[.int .i64 0, .int .i64 0] 23)).heap[w.heap.size + 1]? = some (.cells #[.int .i64 t', .int .i64 l'] 23 (0, 0)) := blk_alloc (blk_at _ (by simp)) _
      have a3 : (((w.alloc (.cells #[.int .i64 t, .int .i64 l] 23)).alloc (.cells #[.int .i64 t', .int .i64 l'] 23)).alloc (.cells #[.int .i64 0, .int .i64 0] 23)).heap[w.heap.size + 1 + 1]? = some (.cells #[.int .i64 0, .int .i64 0] 23 (0, 0)) := blk_at _ (by simp)
      generalize ((w.alloc (.cells #[.int .i64 t, .int .i64 l] 23)).alloc (.cells #[.int .i64 t', .int .i64 l'] 23)).alloc (.cells #[.int .i64 0, .int .i64 0] 23) = W0 at *
      refine (valid_calls t l _ h0 h1 h2 h3).mono ?_
      rintro e w1 ⟨rfl, hB1⟩
      rw [decide_eq_true hv.out]
      replace a1 := blk_below a1 hB1
      replace a2 := blk_below a2 hB1
      replace a3 := blk_below a3 hB1
      replace B0 := bl_then B0 hB1
      clear hB1
      obtain ⟨q1, q2, q3, q4⟩ := bx2 a2
      go_wp2_with fail
      refine (valid_calls t' l' _ h0' h1' h2' h3').mono ?_
      rintro e w2 ⟨rfl, hB2⟩
      rw [decide_eq_false hv'.out]
      replace a1 := blk_below a1 hB2
      replace a2 := blk_below a2 hB2
      replace a3 := blk_below a3 hB2
      replace B0 := bl_then B0 hB2
      clear hB2
      clear q1 q2 q3 q4
      obtain ⟨z1, z2, z3, z4⟩ := bx2 a3
      go_wp2
      refine bodyPost_ret (results_cell_tmp_row rfl _ _ (w.heap.size + 1 + 1) 23 #[.int .i64 0, .int .i64 0] (0, 0) _ _ rfl (by first | exact a3 | exact blk_set2 a3 _ _) Tryd.underlying23 rfl (by kernel_rfl) rfl) rfl ?_
      exact ⟨⟨_, _, _, rfl, .inl ⟨e2.out, rfl, rfl, rfl⟩⟩, by first | exact B0 | exact bl_set (bl_set B0 (by show w.heap.size ≤ w.heap.size + 1 + 1; omega) _) (by show w.heap.size ≤ w.heap.size + 1 + 1; omega) _⟩
  · have e2 : Hid (¬ (OkN t l ∧ OkN t' l')) := Lib.hid (fun h => hv h.1)
    replace hv := Lib.hid hv
    go_enter Tryd.func10, Tryd.ntmps10
    go_wp2_with fail
    have B0 := bl_alloc (bl_alloc (bl_alloc (Below.refl w.heap.size w) (.cells #[.int .i64 t, .int .i64 l] 23)) (.cells #[.int .i64 t', .int .i64 l'] 23)) (.cells #[.int .i64 0, .int .i64 0] 23)
    have a1 : (((w.alloc (.cells #[.int .i64 t, .int .i64 l] 23)).alloc (.cells #[.int .i64 t', .int .i64 l'] 23)).alloc (.cells #[.int .i64 0, .int .i64 0] 23)).heap[w.heap.size]? = some (.cells #[.int .i64 t, .int .i64 l] 23 (0, 0)) := blk_alloc (blk_alloc (blk_at _ rfl) _) _
    have a2 : (((w.alloc (.cells #[.int .i64 t, .int .i64 l] 23)).alloc (.cells #[.int .i64 t', .int .i64 l'] 23)).alloc (.cells #[.int .i64 0, .int .i64 0] 23)).heap[w.heap.size + 1]? = some (.cells #[.int .i64 t', .int .i64 l'] 23 (0, 0)) := blk_alloc (blk_at _ (by simp)) _
    have a3 : (((w.alloc (.cells #[.int .i64 t, .int .i64 l] 23)).alloc (.cells #[.int .i64 t', .int .i64 l'] 23)).alloc (.cells #[.int .i64 0, .int .i64 0] 23)).heap[w.heap.size + 1 + 1]? = some (.cells #[.int .i64 0, .int .i64 0] 23 (0, 0)) := blk_at _ (by simp)
    generalize ((w.alloc (.cells #[.int .i64 t, .int .i64 l] 23)).alloc (.cells #[.int .i64 t', .int .i64 l'] 23)).alloc (.cells #[.int .i64 0, .int .i64 0] 23) = W0 at *
    refine (valid_calls t l _ h0 h1 h2 h3).mono ?_
    rintro e w1 ⟨rfl, hB1⟩
    rw [decide_eq_false hv.out]
    replace a1 := blk_below a1 hB1
    replace a2 := blk_below a2 hB1
    replace a3 := blk_below a3 hB1
    replace B0 := bl_then B0 hB1
    clear hB1
    obtain ⟨z1, z2, z3, z4⟩ := bx2 a3
    go_wp2
    refine bodyPost_ret (results_cell_tmp_row rfl _ _ (w.heap.size + 1 + 1) 23 #[.int .i64 0, .int .i64 0] (0, 0) _ _ rfl (by first | exact a3 | exact blk_set2 a3 _ _) Tryd.underlying23 rfl (by kernel_rfl) rfl) rfl ?_
    exact ⟨⟨_, _, _, rfl, .inl ⟨e2.out, rfl, rfl, rfl⟩⟩, by first | exact B0 | exact bl_set (bl_set B0 (by show w.heap.size ≤ w.heap.size + 1 + 1; omega) _) (by show w.heap.size ≤ w.heap.size + 1 + 1; omega) _⟩
end Go.Proofs.YtmeldkceajnobaaDoor
