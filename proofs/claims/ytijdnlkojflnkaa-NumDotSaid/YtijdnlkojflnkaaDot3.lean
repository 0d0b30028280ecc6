/- floodmarklaw01: NumDot. -/
import Derived.Test.YtijdnlkojflnkaaDot2
import Derived.Test.YtijdnlkojflnkaaNum6
import Derived.ArgAppend
import Derived.Deep.AppendSrc
set_option linter.unusedVariables false
set_option linter.unusedSimpArgs false
namespace Go.Proofs.Ytijdnlkojflnkaa
open Go.RowKit

/-- The cells of numbers in a row. -/
def flat : List (Int × Int) → List Value
  | [] => []
  | p :: r => .int .i64 p.1 :: .int .i64 p.2 :: flat r
theorem flat_len (xs : List (Int × Int)) : (flat xs).length = xs.length * 2 := by
  induction xs with
  | nil => rfl
  | cons p r ih => simp only [flat, List.length_cons, ih]; omega
theorem flat_at (xs : List (Int × Int)) (j : Nat) (hj : j < xs.length) : (flat xs)[j * 2]? = some (.int .i64 (xs.getD j (0, 0)).1) ∧ (flat xs)[j * 2 + 1]? = some (.int .i64 (xs.getD j (0, 0)).2) := by
  induction xs generalizing j with
  | nil => simp at hj
  | cons p r ih =>
    cases j with
    | zero => exact ⟨rfl, rfl⟩
    | succ j =>
      have := ih j (by simpa using hj)
      have e1 : (j + 1) * 2 = j * 2 + 1 + 1 := by omega
      rw [e1]
      simpa [flat] using this
theorem flat_one (xs : List (Int × Int)) : ∀ u ∈ flat xs, u.oneCell' = true := by
  induction xs with
  | nil => intro u hu; simp [flat] at hu
  | cons p r ih =>
    intro u hu
    simp only [flat, List.mem_cons] at hu
    rcases hu with rfl | rfl | hu
    · rfl
    · rfl
    · exact ih u hu
theorem rdn_cells {w : World} {g off n : Nat} {xs : List (Int × Int)} (h : RdN w (some ⟨g, off, none⟩) n xs) (j : Nat) (u : Value) (hu : (flat xs)[j]? = some u) : w.cell? ((⟨g, off, none⟩ : Addr).add j) = some u := by
  have hj : j < xs.length * 2 := by
    have := (List.getElem?_eq_some_iff.1 hu).1
    rwa [flat_len] at this
  have hl := h.1
  obtain ⟨g', off', e, _, hc⟩ := h.2.2 (by omega)
  simp only [Option.some.injEq, Addr.mk.injEq] at e
  obtain ⟨rfl, rfl, _⟩ := e
  have ea : ((⟨g, off, none⟩ : Addr).add j) = ⟨g, off + j, none⟩ := by first | rfl | simp [Addr.add]
  rw [ea]
  have hi : j / 2 < n := by omega
  obtain ⟨c1, c2⟩ := hc (j / 2) hi
  obtain ⟨f1, f2⟩ := flat_at xs (j / 2) (by omega)
  rcases Nat.mod_two_eq_zero_or_one j with hm | hm
  · have e : j / 2 * 2 = j := by omega
    rw [e] at c1 f1
    rw [c1, ← f1, hu]
  · have e : j / 2 * 2 + 1 = j := by omega
    have e' : off + j / 2 * 2 + 1 = off + j := by omega
    rw [e'] at c2
    rw [e] at f2
    rw [c2, ← f2, hu]
/-- append by its own run. -/
theorem wpList_app {P : Program} {w : World} {ops : Array Oper} {rest : List Oper} {o : Oper} {a : Act} {Q : Exit → Act → World → Prop} (hg : o.guard = none) (s x : Operand) (t : TypeId) (ho : o.op = Op.call { callee := Callee.builtin Builtin.append, args := #[s, x], argTypes := #[t, t] })
    (S X : Value) (hs : a.eval s = S) (hx : a.eval x = X) (ty : TypeId) (hty : o.type = ty) (v : Value) (w' : World) (hrun : (Builtin.append_ #[t, t] ty #[S, X]).run P w = .ok v w') (h : wpList P ops Q rest (a.put o.dst v) w') : wpList P ops Q (o :: rest) a w := by
  subst hty
  refine wpList_plain hg fun K hK' => ?_
  unfold Oper.wp
  simp [execOp, ho, resolve, invoke, builtin, hs, hx, hrun, Result.andThen]
  exact hK' _ _ h
theorem info_num : (Try.prog.info? 23).map (fun i => (i.zero, i.size, i.bytes)) = some (some (.agg #[.int .i64 0, .int .i64 0]), 2, 16) := by kernel_rfl

/-- append([]Num{}, l...): the same numbers in memory of its own. -/
theorem app_step {W : World} {A : Option Addr} {n c : Nat} {xs : List (Int × Int)} (hr : RdN W A n xs) (hn : n ≤ 200) (gb : Nat) :
    ∃ v W', (Builtin.append_ #[43, 43] 43 #[.slice (some ⟨gb, 0, none⟩) 0 0, .slice A n c]).run Try.prog W = .ok v W' ∧ (∃ A' c', v = .slice A' n c' ∧ RdN W' A' n xs) ∧ Below W.heap.size W W' := by
  obtain ⟨i0, hi, hz0, hz1, hz2⟩ := info_parts info_num
  have hl := hr.1
  rcases Nat.eq_zero_or_pos n with h0 | h0
  · subst h0
    have hx : xs = [] := List.eq_nil_of_length_eq_zero hl
    subst hx
    have src : Src Try.prog i0.size 43 (.slice A 0 c) 0 [] W := by
      cases A with
      | none => exact Src.ofNil W Try.underlying43 c
      | some a => exact Src.ofSlice W Try.underlying43 a 0 c [] (by simp) (fun j u h => by simp at h) (fun u h => by simp at h)
    have hrun := run_append_room_src W 43 43 43 23 i0 Try.underlying43 hi gb 0 0 0 (.slice A 0 c) 0 [] src (by omega) (fun j hj => by simp at hj) (fun j hj => by simp at hj)
    exact ⟨_, _, hrun, ⟨_, _, rfl, rfl, by omega, fun h => absurd h (by omega)⟩, by first | exact Below.refl _ _ | (simp [World.setCells]; exact Below.refl _ _)⟩
  · obtain ⟨g, off, rfl, hg, hc⟩ := hr.2.2 h0
    obtain ⟨v', w', hrun, r1, r2⟩ := run_append_arg_grows (P := Try.prog) W 43 43 23 i0 (.agg #[.int .i64 0, .int .i64 0]) 2 16 Try.underlying43 hi hz0 hz1 hz2 rfl (by omega) ⟨gb, 0, none⟩ 0 0 [] rfl (fun j u h => by simp at h) ⟨g, off, none⟩ n c (flat xs) (by rw [flat_len, hl]) (rdn_cells hr) (by omega) (by simp only [maxLen]; omega) (by omega)
    rw [List.nil_append, Nat.zero_add] at r1
    refine ⟨v', w', hrun, ?_, (Below.refl _ _).grown r2 (Nat.le_refl _) (by simp)⟩
    rcases r1.2 with ⟨_, hh⟩ | ⟨g', cap, cur, rfl, hb, hheap, hcap, hm, hs, ht⟩
    · omega
    · refine ⟨_, _, rfl, hl, by simp only [maxLen] at hm; omega, fun _ => ⟨g', 0, rfl, blk_lt hheap, fun j hj => ?_⟩⟩
      obtain ⟨f1, f2⟩ := flat_at xs j (by omega)
      have key : ∀ m, m < n * 2 → w'.cell? ⟨g', m, none⟩ = (flat xs)[m]? := by
        intro m hm
        rw [← ht, List.getElem?_take, if_pos hm, Array.getElem?_toList]
        simp [World.cell?, hheap]
      rw [Nat.zero_add, key _ (by omega), key _ (by omega)]
      exact ⟨f1, f2⟩

set_option maxHeartbeats 8000000 in
set_option maxRecDepth 100000 in
theorem dot_walk (A : Option Addr) (n c : Nat) (xs : List (Int × Int)) (A' : Option Addr) (n' c' : Nat) (ys : List (Int × Int)) (w : World) (h : RdN w A n xs) (h' : RdN w A' n' ys) (hi : I64s xs) (hi' : I64s ys) :
    Calls Try.prog 8 #[.slice A n c, .slice A' n' c'] w fun e w' => e = .returned (.bool true) ∧ Below w.heap.size w w' := by
  by_cases hs : n ≤ 200 ∧ n' ≤ 200
  · obtain ⟨hn, hn'⟩ := hs
    have G1 : decide ((200 : Int) < (n : Int)) = false := by simp; omega
    have G2 : decide ((200 : Int) < (n' : Int)) = false := by simp; omega
    generalize hT : dotT xs ys = oT
    generalize hL : dotL xs ys = oL
    generalize hE : dotE xs ys = oE
    replace hT := Lib.hid hT
    replace hL := Lib.hid hL
    replace hE := Lib.hid hE
    go_enter Try.func8, Try.ntmps8
    go_wp2_with fail
    refine (rndot_calls A n c xs A' n' c' ys _ h h' hi hi' hn hn').mono ?_
    rintro e w1 ⟨he, hB1⟩
    rw [hT.out, hL.out, hE.out] at he
    unfold NumR at he
    subst he
    have x1 : (w1.alloc (.cells #[.int .i64 oT, .int .i64 oL] 23)).heap[w1.heap.size]? = some (.cells #[.int .i64 oT, .int .i64 oL] 23 (0, 0)) := blk_at _ rfl
    have B0 := bl_alloc hB1 (.cells #[.int .i64 oT, .int .i64 oL] 23)
    clear hB1 G1 G2
    go_upto_region 4 with (fail)
    generalize w1.heap.size = g1 at *
    generalize w1.alloc (.cells #[.int .i64 oT, .int .i64 oL] 23) = W1 at *
    replace h := h.below B0
    replace h' := h'.below B0
    obtain ⟨v1, W2, hcp1, ⟨Aa, ca, rfl, ra⟩, hBa⟩ := app_step (W := W1.alloc (.cells #[] 23)) (h.below (Below.refl _ _ |>.alloc (Nat.le_refl _) _)) hn W1.heap.size
    have hB2 : Below W1.heap.size W1 W2 := bl_then (bl_alloc (Below.refl _ _) _) hBa
    obtain ⟨v2, W3, hcp2, ⟨Ab, cb, rfl, rb⟩, hBb⟩ := app_step (W := W2.alloc (.cells #[] 23)) ((h'.below hB2).below (Below.refl _ _ |>.alloc (Nat.le_refl _) _)) hn' W2.heap.size
    have hB3 : Below W2.heap.size W2 W3 := bl_then (bl_alloc (Below.refl _ _) _) hBb
    replace hcp1 := Lib.hid hcp1
    replace hcp2 := Lib.hid hcp2
    go_upto_region 5 with (first | (at_builtin; refine wpList_app rfl (.tmp 26) (.tmp 27) 43 (by rfl) _ _ (by rfl) (by rfl) _ (by rfl) _ _ hcp1.out ?_) | (at_builtin; refine wpList_app rfl (.tmp 29) (.tmp 30) 43 (by rfl) _ _ (by rfl) (by rfl) _ (by rfl) _ _ hcp2.out ?_))
    replace x1 := blk_below (blk_below x1 hB2) hB3
    replace h := (h.below hB2).below hB3
    replace h' := (h'.below hB2).below hB3
    replace ra := ra.below hB3
    replace B0 := bl_then (bl_then B0 hB2) hB3
    clear hB2 hB3
    go_wp2_with fail
    refine (ndot_calls A n c xs A' n' c' ys _ h h' hi hi' hn hn').mono ?_
    rintro e w4 ⟨he, hB4⟩
    rw [hT.out, hL.out, hE.out] at he
    unfold NumR at he
    subst he
    have x2 : (w4.alloc (.cells #[.int .i64 oT, .int .i64 oL] 23)).heap[w4.heap.size]? = some (.cells #[.int .i64 oT, .int .i64 oL] 23 (0, 0)) := blk_at _ rfl
    have hB5 := bl_alloc hB4 (.cells #[.int .i64 oT, .int .i64 oL] 23)
    replace x1 := blk_below x1 hB5
    replace h := h.below hB5
    replace h' := h'.below hB5
    replace ra := ra.below hB5
    replace rb := rb.below hB5
    replace B0 := bl_then B0 hB5
    clear hB4 hB5
    go_upto_region 6 with (fail)
    generalize w4.heap.size = g4 at *
    generalize w4.alloc (.cells #[.int .i64 oT, .int .i64 oL] 23) = W4 at *
    obtain ⟨p1, p2, p3, p4⟩ := bx2 x1
    obtain ⟨q1, q2, q3, q4⟩ := bx2 x2
    go_wp2_with fail
    refine (rsame_calls A n c Aa ca xs _ h ra).mono ?_
    rintro e w5 ⟨rfl, hB5⟩
    replace h' := h'.below hB5
    replace rb := rb.below hB5
    replace B0 := bl_then B0 hB5
    clear hB5 p1 p2 p3 p4 q1 q2 q3 q4 x1 x2 h ra
    go_wp2_with fail
    refine (rsame_calls A' n' c' Ab cb ys _ h' rb).mono ?_
    rintro e w6 ⟨rfl, hB6⟩
    replace B0 := bl_then B0 hB6
    clear hB6 h' rb
    go_wp2_with fail
    refine (awake_calls _).mono ?_
    rintro e wz ⟨rfl, hBz⟩
    go_wp2
    go_ret
    exact ⟨rfl, bl_then B0 hBz⟩
  · by_cases h1 : n ≤ 200
    · have G1 : decide ((200 : Int) < (n : Int)) = false := by simp; omega
      have G2 : decide ((200 : Int) < (n' : Int)) = true := by simp; omega
      have G4 : (200 : Int) < (n' : Int) := by omega
      clear hs
      go_enter Try.func8, Try.ntmps8
      go_wp2_with fail
      refine (awake_calls _).mono ?_
      rintro e wz ⟨rfl, hBz⟩
      go_wp2
      go_ret
      exact ⟨rfl, hBz⟩
    · have G1 : decide ((200 : Int) < (n : Int)) = true := by simp; omega
      have G3 : (200 : Int) < (n : Int) := by omega
      clear hs
      go_enter Try.func8, Try.ntmps8
      go_wp2_with fail
      refine (awake_calls _).mono ?_
      rintro e wz ⟨rfl, hBz⟩
      go_wp2
      go_ret
      exact ⟨rfl, hBz⟩
end Go.Proofs.Ytijdnlkojflnkaa
