/- floodmarklaw01: awake. -/
import Derived.Test.YtmeldkceajnobaaDoorNum5
set_option linter.unusedVariables false
set_option linter.unusedSimpArgs false
namespace Go.Proofs.YtmeldkceajnobaaDoor
open Go.RowKit

theorem aw_1 : rT (OkN 1 3 ∧ OkN 1 6) (Rat.divInt 1 3 + Rat.divInt 1 6) = 1 ∧ rL (OkN 1 3 ∧ OkN 1 6) (Rat.divInt 1 3 + Rat.divInt 1 6) = 2 ∧ rE (OkN 1 3 ∧ OkN 1 6) (Rat.divInt 1 3 + Rat.divInt 1 6) = 0 := by decide +kernel
theorem aw_3 : rT (OkN 1152921504606846976 1 ∧ OkN 1 1) (Rat.divInt 1152921504606846976 1 + Rat.divInt 1 1) = 0 ∧ rL (OkN 1152921504606846976 1 ∧ OkN 1 1) (Rat.divInt 1152921504606846976 1 + Rat.divInt 1 1) = 0 ∧ rE (OkN 1152921504606846976 1 ∧ OkN 1 1) (Rat.divInt 1152921504606846976 1 + Rat.divInt 1 1) = 3 := by decide +kernel
theorem aw_2 {T L E : Int} (h : Btw 3 10 2 5 T L E) : T = 1 ∧ L = 3 ∧ E = 0 := by
  have ok : OkN 3 10 ∧ OkN 2 5 := by decide +kernel
  have le : Rat.divInt 3 10 ≤ Rat.divInt 2 5 := by decide +kernel
  have S := Simp.deep (Rat.divInt 3 10) (Rat.divInt 2 5) _ (by decide +kernel) (by decide +kernel) (Simp.next _ _ (by decide +kernel) (by decide +kernel))
  rcases h with ⟨h, _⟩ | ⟨_, ⟨h, _⟩ | ⟨_, ⟨h, _⟩ | ⟨h, _⟩ | ⟨_, x, hx, h1, h2, h3⟩⟩⟩
  · exact absurd ok h
  · exact absurd le h
  · omega
  · omega
  · have e := hx.unique S
    subst e
    rw [h1, h2, h3]
    decide +kernel

set_option maxHeartbeats 8000000 in
set_option maxRecDepth 100000 in
theorem awake_calls (w : World) :
    Calls Tryd.prog 4 #[] w fun e w' => e = .returned (.bool true) ∧ Below w.heap.size w w' := by
  go_enter Tryd.func4, Tryd.ntmps4
  go_wp2_with fail
  refine (nadd_calls 1 3 1 6 _ (by omega) (by omega) (by omega) (by omega) (by omega) (by omega) (by omega) (by omega)).mono ?_
  rintro e w1 ⟨he, hB1⟩
  rw [aw_1.1, aw_1.2.1, aw_1.2.2] at he
  unfold NumR at he
  subst he
  have a1 : (w1.alloc (.cells #[.int .i64 1, .int .i64 2] 23)).heap[w1.heap.size]? = some (.cells #[.int .i64 1, .int .i64 2] 23 (0, 0)) := blk_at _ rfl
  have B0 := bl_alloc hB1 (.cells #[.int .i64 1, .int .i64 2] 23)
  clear hB1
  go_upto_region 2 with (fail)
  generalize w1.heap.size = g1 at *
  generalize w1.alloc (.cells #[.int .i64 1, .int .i64 2] 23) = W1 at *
  go_wp2_with fail
  refine (nbetween_calls 3 10 2 5 _ (by omega) (by omega) (by omega) (by omega) (by omega) (by omega) (by omega) (by omega)).mono ?_
  rintro e w2 ⟨⟨T, L, E, he, hb⟩, hB2⟩
  obtain ⟨rfl, rfl, rfl⟩ := aw_2 hb
  unfold NumR at he
  subst he
  clear hb
  have a2 : (w2.alloc (.cells #[.int .i64 1, .int .i64 3] 23)).heap[w2.heap.size]? = some (.cells #[.int .i64 1, .int .i64 3] 23 (0, 0)) := blk_at _ rfl
  replace a1 := blk_alloc (blk_below a1 hB2) (.cells #[.int .i64 1, .int .i64 3] 23)
  replace B0 := bl_alloc (bl_then B0 hB2) (.cells #[.int .i64 1, .int .i64 3] 23)
  clear hB2
  go_upto_region 3 with (fail)
  generalize w2.heap.size = g2 at *
  generalize w2.alloc (.cells #[.int .i64 1, .int .i64 3] 23) = W2 at *
  go_wp2_with fail
  refine (nadd_calls 1152921504606846976 1 1 1 _ (by omega) (by omega) (by omega) (by omega) (by omega) (by omega) (by omega) (by omega)).mono ?_
  rintro e w3 ⟨he, hB3⟩
  rw [aw_3.1, aw_3.2.1, aw_3.2.2] at he
  unfold NumR at he
  subst he
  replace a1 := blk_alloc (blk_below a1 hB3) (.cells #[.int .i64 0, .int .i64 0] 23)
  replace a2 := blk_alloc (blk_below a2 hB3) (.cells #[.int .i64 0, .int .i64 0] 23)
  replace B0 := bl_alloc (bl_then B0 hB3) (.cells #[.int .i64 0, .int .i64 0] 23)
  clear hB3
  go_upto_region 4 with (fail)
  generalize w3.alloc (.cells #[.int .i64 0, .int .i64 0] 23) = W3 at *
  obtain ⟨p1, p2, p3, p4⟩ := bx2 a1
  obtain ⟨q1, q2, q3, q4⟩ := bx2 a2
  go_wp2
  go_ret
  exact ⟨rfl, B0⟩
end Go.Proofs.YtmeldkceajnobaaDoor
