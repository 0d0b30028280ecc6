/- Quo: plain law, results in two cells. -/
import Derived.Test.YtjmbpeniibdnoaaInt6
set_option linter.unusedVariables false
set_option linter.unusedSimpArgs false
namespace Go.Proofs.Ytjmbpeniibdnoaa
open Go.RowKit

theorem results_cells_row {P : Program} {fn : Func} {p1 p2 : Tmp} {ty1 ty2 : TypeId} (h : fn.results = #[.cell p1 ty1, .cell p2 ty2]) (tmps : Array Value) (w : World) (g1 g2 : Nat) (t1 t2 : TypeId) (cs1 cs2 : Array Value) (fr1 fr2 : Nat × Nat) (d1 d2 : TypeDesc)
    (hp1 : tmps.getD p1 undef = .pointer (some ⟨g1, 0, none⟩)) (hg1 : w.heap[g1]? = some (.cells cs1 t1 fr1))
    (hu1 : P.underlying ty1 = some d1) (hd1 : (match d1 with | .struct _ | .array _ _ => true | _ => false) = true) (hi1 : (P.info? ty1).map (·.size) = some cs1.size)
    (hp2 : tmps.getD p2 undef = .pointer (some ⟨g2, 0, none⟩)) (hg2 : w.heap[g2]? = some (.cells cs2 t2 fr2))
    (hu2 : P.underlying ty2 = some d2) (hd2 : (match d2 with | .struct _ | .array _ _ => true | _ => false) = true) (hi2 : (P.info? ty2).map (·.size) = some cs2.size) :
    (results fn tmps).run P w = .ok (.tuple #[.agg cs1, .agg cs2]) w := by
  have hp1' : tmps[p1]?.getD undef = .pointer (some ⟨g1, 0, none⟩) := by simpa using hp1
  have hp2' : tmps[p2]?.getD undef = .pointer (some ⟨g2, 0, none⟩) := by simpa using hp2
  simp [results, h, hp1', hp2', asAddr, run_loadVar_row w g1 t1 ty1 cs1 fr1 d1 hg1 hu1 hd1 hi1, run_loadVar_row w g2 t2 ty2 cs2 fr2 d2 hg2 hu2 hd2 hi2]
theorem results_cell_tmp_row {P : Program} {fn : Func} {p1 p2 : Tmp} {ty1 : TypeId} (h : fn.results = #[.cell p1 ty1, .tmp p2]) (tmps : Array Value) (w : World) (g1 : Nat) (t1 : TypeId) (cs1 : Array Value) (fr1 : Nat × Nat) (d1 : TypeDesc) (v : Value)
    (hp1 : tmps.getD p1 undef = .pointer (some ⟨g1, 0, none⟩)) (hg1 : w.heap[g1]? = some (.cells cs1 t1 fr1))
    (hu1 : P.underlying ty1 = some d1) (hd1 : (match d1 with | .struct _ | .array _ _ => true | _ => false) = true) (hi1 : (P.info? ty1).map (·.size) = some cs1.size)
    (hp2 : tmps.getD p2 undef = v) :
    (results fn tmps).run P w = .ok (.tuple #[.agg cs1, v]) w := by
  have hp1' : tmps[p1]?.getD undef = .pointer (some ⟨g1, 0, none⟩) := by simpa using hp1
  have hp2' : tmps[p2]?.getD undef = v := by simpa using hp2
  simp [results, h, hp1', hp2', asAddr, run_loadVar_row w g1 t1 ty1 cs1 fr1 d1 hg1 hu1 hd1 hi1]

theorem quo_eq {s t X Y Q R x y : Int} (hs : s = 1 ∨ s = -1) (ht : t = 1 ∨ t = -1) (ex : x = s * X) (ey : y = t * Y) (hX : X = Y * Q + R) (hq : 0 ≤ Q) (r0 : 0 ≤ R) (r1 : R < Y) :
    s * t * Q = x.tdiv y ∧ s * R = x.tmod y := by
  have hY : 0 < Y := by omega
  have hX0 : 0 ≤ X := by have := Int.mul_nonneg (show 0 ≤ Y by omega) hq; omega
  have d1 : X.tdiv Y = Q := by
    rw [Int.tdiv_eq_ediv_of_nonneg hX0, hX, Int.add_comm, Int.add_mul_ediv_left _ _ (by omega), Int.ediv_eq_zero_of_lt r0 r1, Int.zero_add]
  have d2 : X.tmod Y = R := by
    have := Int.tmod_add_mul_tdiv X Y
    rw [d1] at this
    omega
  subst ex ey
  rcases hs with rfl | rfl <;> rcases ht with rfl | rfl <;> simp [Int.neg_tdiv, Int.tdiv_neg, Int.neg_tmod, Int.tmod_neg, d1, d2]
theorem quo_lt {s t X Y x y : Int} (hs : s = 1 ∧ 0 < X ∨ s = -1 ∧ 0 < X ∨ s = 0 ∧ X = 0) (ht : t = 1 ∨ t = -1) (ex : x = s * X) (ey : y = t * Y) (h : X < Y) : x.tdiv y = 0 ∧ x.tmod y = x := by
  have hX0 : 0 ≤ X := by omega
  rcases hs with ⟨hs, _⟩ | ⟨hs, _⟩ | ⟨rfl, rfl⟩
  · have := quo_eq (.inl hs) ht ex ey (show X = Y * 0 + X by omega) (by omega) hX0 h
    rw [Int.mul_zero] at this
    exact ⟨this.1.symm, by rw [← this.2, ex]⟩
  · have := quo_eq (.inr hs) ht ex ey (show X = Y * 0 + X by omega) (by omega) hX0 h
    rw [Int.mul_zero] at this
    exact ⟨this.1.symm, by rw [← this.2, ex]⟩
  · rw [Int.zero_mul] at ex
    subst ex
    simp
/-- The magnitude of a quotient is at most that of the dividend. -/
theorem tdiv_abs (x y : Int) : (x.tdiv y).natAbs ≤ x.natAbs := by
  rw [Int.natAbs_tdiv]
  exact Nat.div_le_self _ _
theorem tmod_abs (x y : Int) : (x.tmod y).natAbs ≤ x.natAbs := by
  rw [Int.natAbs_tmod]
  exact Nat.mod_le _ _

/-- Two integers stored into two boxes of the call's own. -/
theorem putInt2 {w W : World} {v : Int} {A : Option Addr} {n c : Nat} {x : Int} {v' : Int} {A' : Option Addr} {n' c' : Nat} {x' : Int} {g g' : Nat} {a b a' b' : Value} (h : IntV W v A n c x) (h' : IntV W v' A' n' c' x')
    (hb : W.heap[g]? = some (.cells #[a, b] 61 (0, 0))) (hb' : W.heap[g']? = some (.cells #[a', b'] 61 (0, 0))) (hB : Below w.heap.size w W) (hg : w.heap.size ≤ g) (hg' : w.heap.size ≤ g') (hn : g ≠ g') :
    let W' := (((W.setCell ⟨g, 0, none⟩ (.int .i64 v)).setCell ⟨g, 1, none⟩ (.slice A n c)).setCell ⟨g', 0, none⟩ (.int .i64 v')).setCell ⟨g', 1, none⟩ (.slice A' n' c')
    IntV W' v A n c x ∧ IntV W' v' A' n' c' x' ∧ Below w.heap.size w W' ∧ W'.heap[g]? = some (.cells #[.int .i64 v, .slice A n c] 61 (0, 0)) ∧ W'.heap[g']? = some (.cells #[.int .i64 v', .slice A' n' c'] 61 (0, 0)) := by
  obtain ⟨e1, e2, e3⟩ := putInt h hb hB hg
  have o1 : ((W.setCell ⟨g, 0, none⟩ (.int .i64 v)).setCell ⟨g, 1, none⟩ (.slice A n c)).heap[g']? = some (.cells #[a', b'] 61 (0, 0)) := by
    rw [heap_setCell_other _ _ _ _ (fun e => hn e.symm), heap_setCell_other _ _ _ _ (fun e => hn e.symm)]
    exact hb'
  have h2 : IntV ((W.setCell ⟨g, 0, none⟩ (.int .i64 v)).setCell ⟨g, 1, none⟩ (.slice A n c)) v' A' n' c' x' := h'.kp (((Kp.refl _ _).set (p := ⟨g, 0, none⟩) hb (by decide) _).set (p := ⟨g, 1, none⟩) (blk_set hb 0 _) (by decide) _)
  obtain ⟨f1, f2, f3⟩ := putInt h2 o1 e2 hg'
  refine ⟨e1.kp (((Kp.refl _ _).set (p := ⟨g', 0, none⟩) o1 (by decide) _).set (p := ⟨g', 1, none⟩) (blk_set o1 0 _) (by decide) _), f1, f2, ?_, f3⟩
  rw [heap_setCell_other _ _ _ _ hn, heap_setCell_other _ _ _ _ hn]
  exact e3
end Go.Proofs.Ytjmbpeniibdnoaa
