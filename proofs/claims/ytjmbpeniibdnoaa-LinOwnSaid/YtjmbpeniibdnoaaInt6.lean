/- exact: Sub, Cmp of integers. -/
import Derived.Test.YtjmbpeniibdnoaaInt5
set_option linter.unusedVariables false
set_option linter.unusedSimpArgs false
namespace Go.Proofs.Ytjmbpeniibdnoaa
open Go.RowKit

theorem cell_far {w : World} {a : Addr} {x : Value} (h : w.cell? a = some x) (g i : Nat) (u : Value) (hg : a.block ≠ g) : (w.setCell ⟨g, i, none⟩ u).cell? a = some x := by
  rw [World.cell?_setCell_other (w := w) (v := u) (a := ⟨g, i, none⟩) (b := a) (fun e => hg (by rw [← e]))]; exact h
theorem keep2 {w wx : World} {a1 a2 : Addr} {x1 x2 : Value} (hb : Below w.heap.size w wx) (h : w.cell? a1 = some x1 ∧ w.cell? a2 = some x2) :
    wx.cell? a1 = some x1 ∧ wx.cell? a2 = some x2 :=
  ⟨cell_later hb h.1, cell_later hb h.2⟩
theorem keep2_set1 {w : World} {a1 a2 : Addr} {x1 x2 : Value} {g i : Nat} {u : Value} (h : w.cell? a1 = some x1 ∧ w.cell? a2 = some x2) (e1 : a1.block ≠ g) (e2 : a2.block ≠ g) :
    (w.setCell ⟨g, i, none⟩ u).cell? a1 = some x1 ∧ (w.setCell ⟨g, i, none⟩ u).cell? a2 = some x2 :=
  ⟨cell_far h.1 g i u e1, cell_far h.2 g i u e2⟩
theorem keep4 {w wx : World} {a1 a2 a3 a4 : Addr} {x1 x2 x3 x4 : Value} (hb : Below w.heap.size w wx) (h : w.cell? a1 = some x1 ∧ w.cell? a2 = some x2 ∧ w.cell? a3 = some x3 ∧ w.cell? a4 = some x4) :
    wx.cell? a1 = some x1 ∧ wx.cell? a2 = some x2 ∧ wx.cell? a3 = some x3 ∧ wx.cell? a4 = some x4 :=
  ⟨cell_later hb h.1, cell_later hb h.2.1, cell_later hb h.2.2.1, cell_later hb h.2.2.2⟩
theorem keep4_set1 {w : World} {a1 a2 a3 a4 : Addr} {x1 x2 x3 x4 : Value} {g i : Nat} {u : Value} (h : w.cell? a1 = some x1 ∧ w.cell? a2 = some x2 ∧ w.cell? a3 = some x3 ∧ w.cell? a4 = some x4) (e1 : a1.block ≠ g) (e2 : a2.block ≠ g) (e3 : a3.block ≠ g) (e4 : a4.block ≠ g) :
    (w.setCell ⟨g, i, none⟩ u).cell? a1 = some x1 ∧ (w.setCell ⟨g, i, none⟩ u).cell? a2 = some x2 ∧ (w.setCell ⟨g, i, none⟩ u).cell? a3 = some x3 ∧ (w.setCell ⟨g, i, none⟩ u).cell? a4 = some x4 :=
  ⟨cell_far h.1 g i u e1, cell_far h.2.1 g i u e2, cell_far h.2.2.1 g i u e3, cell_far h.2.2.2 g i u e4⟩
theorem keep8 {w wx : World} {a1 a2 a3 a4 a5 a6 a7 a8 : Addr} {x1 x2 x3 x4 x5 x6 x7 x8 : Value} (hb : Below w.heap.size w wx) (h : w.cell? a1 = some x1 ∧ w.cell? a2 = some x2 ∧ w.cell? a3 = some x3 ∧ w.cell? a4 = some x4 ∧ w.cell? a5 = some x5 ∧ w.cell? a6 = some x6 ∧ w.cell? a7 = some x7 ∧ w.cell? a8 = some x8) :
    wx.cell? a1 = some x1 ∧ wx.cell? a2 = some x2 ∧ wx.cell? a3 = some x3 ∧ wx.cell? a4 = some x4 ∧ wx.cell? a5 = some x5 ∧ wx.cell? a6 = some x6 ∧ wx.cell? a7 = some x7 ∧ wx.cell? a8 = some x8 :=
  ⟨cell_later hb h.1, cell_later hb h.2.1, cell_later hb h.2.2.1, cell_later hb h.2.2.2.1, cell_later hb h.2.2.2.2.1, cell_later hb h.2.2.2.2.2.1, cell_later hb h.2.2.2.2.2.2.1, cell_later hb h.2.2.2.2.2.2.2⟩
theorem keep8_set1 {w : World} {a1 a2 a3 a4 a5 a6 a7 a8 : Addr} {x1 x2 x3 x4 x5 x6 x7 x8 : Value} {g i : Nat} {u : Value} (h : w.cell? a1 = some x1 ∧ w.cell? a2 = some x2 ∧ w.cell? a3 = some x3 ∧ w.cell? a4 = some x4 ∧ w.cell? a5 = some x5 ∧ w.cell? a6 = some x6 ∧ w.cell? a7 = some x7 ∧ w.cell? a8 = some x8) (e1 : a1.block ≠ g) (e2 : a2.block ≠ g) (e3 : a3.block ≠ g) (e4 : a4.block ≠ g) (e5 : a5.block ≠ g) (e6 : a6.block ≠ g) (e7 : a7.block ≠ g) (e8 : a8.block ≠ g) :
    (w.setCell ⟨g, i, none⟩ u).cell? a1 = some x1 ∧ (w.setCell ⟨g, i, none⟩ u).cell? a2 = some x2 ∧ (w.setCell ⟨g, i, none⟩ u).cell? a3 = some x3 ∧ (w.setCell ⟨g, i, none⟩ u).cell? a4 = some x4 ∧ (w.setCell ⟨g, i, none⟩ u).cell? a5 = some x5 ∧ (w.setCell ⟨g, i, none⟩ u).cell? a6 = some x6 ∧ (w.setCell ⟨g, i, none⟩ u).cell? a7 = some x7 ∧ (w.setCell ⟨g, i, none⟩ u).cell? a8 = some x8 :=
  ⟨cell_far h.1 g i u e1, cell_far h.2.1 g i u e2, cell_far h.2.2.1 g i u e3, cell_far h.2.2.2.1 g i u e4, cell_far h.2.2.2.2.1 g i u e5, cell_far h.2.2.2.2.2.1 g i u e6, cell_far h.2.2.2.2.2.2.1 g i u e7, cell_far h.2.2.2.2.2.2.2 g i u e8⟩

end Go.Proofs.Ytjmbpeniibdnoaa
