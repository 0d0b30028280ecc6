/- exact: Sub, Cmp of integers. -/
import Derived.Test.YtmeldkceajnobaaDoorInt5
set_option linter.unusedVariables false
set_option linter.unusedSimpArgs false
namespace Go.Proofs.YtmeldkceajnobaaDoor
open Go.RowKit

theorem cell_far {w : World} {a : Addr} {x : Value} (h : w.cell? a = some x) (g i : Nat) (u : Value) (hg : a.block ≠ g) : (w.setCell ⟨g, i, none⟩ u).cell? a = some x := by
  rw [World.cell?_setCell_other (w := w) (v := u) (a := ⟨g, i, none⟩) (b := a) (fun e => hg (by rw [← e]))]; exact h
theorem keep2 {w wx : World} {a1 a2 : Addr} {x1 x2 : Value} (hb : Below w.heap.size w wx) (h : w.cell? a1 = some x1 ∧ w.cell? a2 = some x2) :
    wx.cell? a1 = some x1 ∧ wx.cell? a2 = some x2 :=
  ⟨cell_later hb h.1, cell_later hb h.2⟩
theorem keep2_set1 {w : World} {a1 a2 : Addr} {x1 x2 : Value} {g i : Nat} {u : Value} (h : w.cell? a1 = some x1 ∧ w.cell? a2 = some x2) (e1 : a1.block ≠ g) (e2 : a2.block ≠ g) :
    (w.setCell ⟨g, i, none⟩ u).cell? a1 = some x1 ∧ (w.setCell ⟨g, i, none⟩ u).cell? a2 = some x2 :=
  ⟨cell_far h.1 g i u e1, cell_far h.2 g i u e2⟩
theorem keep4 {w wx : World} {a1 a2 a3 a4 : Addr} {x1 x2 x3 x4 : Value} (hb : Below w.heap.size w wx) (h : w.cell? a1 = some x1 ∧ w.cell? a2 = some x2 ∧ w.cell? a3 = some x3 ∧ w.cell? a4 = some x4) :
    wx.cell? a1 = some x1 ∧ wx.cell? a2 = some x2 ∧ wx.cell? a3 = some x3 ∧ wx.cell? a4 = some x4 :=
  ⟨cell_later hb h.1, cell_later hb h.2.1, cell_later hb h.2.2.1, cell_later hb h.2.2.2⟩
theorem keep4_set1 {w : World} {a1 a2 a3 a4 : Addr} {x1 x2 x3 x4 : Value} {g i : Nat} {u : Value} (h : w.cell? a1 = some x1 ∧ w.cell? a2 = some x2 ∧ w.cell? a3 = some x3 ∧ w.cell? a4 = some x4) (e1 : a1.block ≠ g) (e2 : a2.block ≠ g) (e3 : a3.block ≠ g) (e4 : a4.block ≠ g) :
    (w.setCell ⟨g, i, none⟩ u).cell? a1 = some x1 ∧ (w.setCell ⟨g, i, none⟩ u).cell? a2 = some x2 ∧ (w.setCell ⟨g, i, none⟩ u).cell? a3 = some x3 ∧ (w.setCell ⟨g, i, none⟩ u).cell? a4 = some x4 :=
  ⟨cell_far h.1 g i u e1, cell_far h.2.1 g i u e2, cell_far h.2.2.1 g i u e3, cell_far h.2.2.2 g i u e4⟩
theorem keep8 {w wx : World} {a1 a2 a3 a4 a5 a6 a7 a8 : Addr} {x1 x2 x3 x4 x5 x6 x7 x8 : Value} (hb : Below w.heap.size w wx) (h : w.cell? a1 = some x1 ∧ w.cell? a2 = some x2 ∧ w.cell? a3 = some x3 ∧ w.cell? a4 = some x4 ∧ w.cell? a5 = some x5 ∧ w.cell? a6 = some x6 ∧ w.cell? a7 = some x7 ∧ w.cell? a8 = some x8) :
    wx.cell? a1 = some x1 ∧ wx.cell? a2 = some x2 ∧ wx.cell? a3 = some x3 ∧ wx.cell? a4 = some x4 ∧ wx.cell? a5 = some x5 ∧ wx.cell? a6 = some x6 ∧ wx.cell? a7 = some x7 ∧ wx.cell? a8 = some x8 :=
  ⟨cell_later hb h.1, cell_later hb h.2.1, cell_later hb h.2.2.1, cell_later hb h.2.2.2.1, cell_later hb h.2.2.2.2.1, cell_later hb h.2.2.2.2.2.1, cell_later hb h.2.2.2.2.2.2.1, cell_later hb h.2.2.2.2.2.2.2⟩
theorem keep8_set1 {w : World} {a1 a2 a3 a4 a5 a6 a7 a8 : Addr} {x1 x2 x3 x4 x5 x6 x7 x8 : Value} {g i : Nat} {u : Value} (h : w.cell? a1 = some x1 ∧ w.cell? a2 = some x2 ∧ w.cell? a3 = some x3 ∧ w.cell? a4 = some x4 ∧ w.cell? a5 = some x5 ∧ w.cell? a6 = some x6 ∧ w.cell? a7 = some x7 ∧ w.cell? a8 = some x8) (e1 : a1.block ≠ g) (e2 : a2.block ≠ g) (e3 : a3.block ≠ g) (e4 : a4.block ≠ g) (e5 : a5.block ≠ g) (e6 : a6.block ≠ g) (e7 : a7.block ≠ g) (e8 : a8.block ≠ g) :
    (w.setCell ⟨g, i, none⟩ u).cell? a1 = some x1 ∧ (w.setCell ⟨g, i, none⟩ u).cell? a2 = some x2 ∧ (w.setCell ⟨g, i, none⟩ u).cell? a3 = some x3 ∧ (w.setCell ⟨g, i, none⟩ u).cell? a4 = some x4 ∧ (w.setCell ⟨g, i, none⟩ u).cell? a5 = some x5 ∧ (w.setCell ⟨g, i, none⟩ u).cell? a6 = some x6 ∧ (w.setCell ⟨g, i, none⟩ u).cell? a7 = some x7 ∧ (w.setCell ⟨g, i, none⟩ u).cell? a8 = some x8 :=
  ⟨cell_far h.1 g i u e1, cell_far h.2.1 g i u e2, cell_far h.2.2.1 g i u e3, cell_far h.2.2.2.1 g i u e4, cell_far h.2.2.2.2.1 g i u e5, cell_far h.2.2.2.2.2.1 g i u e6, cell_far h.2.2.2.2.2.2.1 g i u e7, cell_far h.2.2.2.2.2.2.2 g i u e8⟩

set_option maxHeartbeats 1600000 in
set_option maxRecDepth 100000 in
theorem sub_calls (v1 : Int) (A1 : Option Addr) (n1 c1 : Nat) (x : Int) (v2 : Int) (A2 : Option Addr) (n2 c2 : Nat) (y : Int) (w : World) (h1 : IntV w v1 A1 n1 c1 x) (h2 : IntV w v2 A2 n2 c2 y) (k : Nat) (s1 : Sz k x) (s2 : Sz k y) (hk : k ≤ 30000000000) :
    Calls Tryd.prog 75 #[.agg #[.int .i64 v1, .slice A1 n1 c1], .agg #[.int .i64 v2, .slice A2 n2 c2]] w fun e w' => ∃ (v : Int) (A : Option Addr) (n c : Nat), e = .returned (.agg #[.int .i64 v, .slice A n c]) ∧ IntV w' v A n c (x - y) ∧ Below w.heap.size w w' := by
  go_enter Tryd.func75, Tryd.ntmps75
  go_wp2_with fail
  go_region_held3 (fun W => W.cell? ⟨w.heap.size, 0, none⟩ = some (.int .i64 v1) ∧ W.cell? ⟨w.heap.size, 1, none⟩ = some (.slice A1 n1 c1) ∧ W.cell? ⟨w.heap.size + 1, 0, none⟩ = some (.int .i64 v2) ∧ W.cell? ⟨w.heap.size + 1, 1, none⟩ = some (.slice A2 n2 c2)) (first | exact keep4 hB2 (by assumption) | exact keep4 hB1 (by assumption) | exact keep4_set1 (keep4_set1 (by assumption) (by simp; omega) (by simp; omega) (by simp) (by simp)) (by simp; omega) (by simp; omega) (by simp) (by simp) | go_keep) (first | (go_at_call 19; refine (neg_calls v2 A2 n2 c2 y _ (h2.kp (by exact ((((Kp.refl _ _).alloc _).alloc _).alloc _).drew))).mono ?_; rintro e w1 ⟨rfl, hB1⟩; have hbR := blk_below (blk_drew (blk_at (g := w.heap.size + 1 + 1) _ (by simp))) hB1; have HB := bl_then (bl_drew (bl_alloc (bl_alloc (bl_alloc (Below.refl w.heap.size w) _) _) _)) hB1) | (go_at_call 42; refine (add_calls v1 A1 n1 c1 x (-v2) A2 n2 c2 (-y) _ (h1.below HB) (h2.below HB).neg k s1 s2.neg hk).mono ?_; rintro e w2 ⟨v, A, n, c, rfl, hI, hB2⟩; have hbR2 := blk_below hbR hB2; have HB2 := bl_then HB hB2; have hE := Lib.hid (putInt hI hbR2 HB2 (by omega)); obtain ⟨q1, q2, q3, q4⟩ := bx2 hbR2))
  go_wp2
  refine bodyPost_ret (results_cell_row rfl _ _ (w.heap.size + 1 + 1) 38 #[.int .i64 v, .slice A n c] (0, 0) _ rfl hE.out.2.2 Tryd.underlying38 rfl (by kernel_rfl)) rfl ?_
  exact ⟨_, _, _, _, rfl, by rw [Int.sub_eq_add_neg]; exact hE.out.1, hE.out.2.1⟩
end Go.Proofs.YtmeldkceajnobaaDoor
