/- reference: Of. -/
import Derived.Test.YtloplmmnmehkmaaGreatRef2
set_option linter.unusedVariables false
set_option linter.unusedSimpArgs false
namespace Go.Proofs.YtloplmmnmehkmaaGreat
open Go.RowKit

/-- The digits of an int, k of them taken. -/
structure RDh (X : Int) (k : Nat) (ds : List Int) (m : Int) : Prop where
  m0 : 0 ≤ m
  len : ds.length = k
  dig : Dig 1073741824 ds
  lim : k = 0 ∧ m ≤ 9223372036854775808 ∨ k = 1 ∧ m ≤ 8589934592 ∨ k = 2 ∧ m ≤ 8 ∨ k = 3 ∧ m = 0
  last : 0 < m ∨ Trimmed ds
  eq : val 1073741824 ds + 1073741824 ^ k * m = X
theorem RDh.start (X : Int) (h0 : 0 ≤ X) (h1 : X ≤ 9223372036854775808) : RDh X 0 [] X := ⟨h0, rfl, Dig.nil, .inl ⟨rfl, h1⟩, .inr (.inl rfl), by simp [val]⟩
theorem RDh.step {X : Int} {k : Nat} {ds : List Int} {m : Int} (h : RDh X k ds m) (hm : 0 < m) : RDh X (k + 1) (ds ++ [m % 1073741824]) (m / 1073741824) := by
  have hl := h.lim
  refine ⟨by omega, by simp [h.len], h.dig.append (Dig.one (by omega) (by omega)), by omega, ?_, ?_⟩
  · by_cases hz : 0 < m / 1073741824
    · exact .inl hz
    · refine .inr (.inr ?_)
      rw [List.length_append, List.length_singleton, Nat.add_sub_cancel, getD_snoc]
      omega
  · rw [val_append, h.len, Int.pow_succ]
    have e := h.eq
    have em := Int.emod_add_mul_ediv m 1073741824
    generalize m / 1073741824 = q at *
    generalize m % 1073741824 = r at *
    generalize (1073741824 : Int) ^ k = p at *
    simp only [val]
    grind

theorem own_one {W : World} {B : Nat} (e : TypeId) (k : IntKind) (x : Int) (hB : B ≤ W.heap.size) : (W.alloc (.cells #[.int k x] e)).ownsRow B e 1 (.slice (some ⟨W.heap.size, 0, none⟩) 1 1) 1 (ints k [x]) :=
  ⟨rfl, .inr ⟨W.heap.size, 1, #[.int k x], rfl, hB, blk_at _ rfl, by omega, by simp [maxLen], rfl, rfl⟩⟩

set_option maxHeartbeats 800000 in
set_option maxRecDepth 100000 in
theorem rof_calls (x : Int) (w : World) (h0 : -9223372036854775808 ≤ x) (h1 : x ≤ 9223372036854775807) :
    Calls Tryz.prog 76 #[.int .i64 x] w fun e w' => RIntR e w' x ∧ Below w.heap.size w w' := by
  by_cases ha : -2305843009213693952 < x ∧ x < 2305843009213693952
  · obtain ⟨ha, hb⟩ := ha
    go_enter Tryz.func76, Tryz.ntmps76
    go_wp2
    refine bodyPost_ret (results_cell_row rfl _ _ w.heap.size 49 #[.int .i64 x, .bool false, .slice none 0 0] (0, 0) _ rfl (blk_at _ rfl) Tryz.underlying49 rfl (by kernel_rfl)) rfl ?_
    exact ⟨⟨_, _, _, _, _, rfl, RV.small _ ha hb⟩, bl_alloc (Below.refl _ _) _⟩
  · have I := info_int
    have HI := Lib.hid I
    clear I
    rcases (show x ≤ -2305843009213693952 ∨ 2305843009213693952 ≤ x by omega) with hx | hx
    · obtain ⟨X, hX⟩ : ∃ X, -x = X := ⟨_, rfl⟩
      have HX := Lib.hid hX
      clear hX
      have hX : -x = X := HX.out
      have X0 : 2305843009213693952 ≤ X ∧ X ≤ 9223372036854775808 := by omega
      have hst := (RDh.start X (by omega) (by omega)).step (by omega)
      have r0 : 0 ≤ X % 1073741824 ∧ X % 1073741824 < 1073741824 := by omega
      have m0 : 0 ≤ X / 1073741824 ∧ X / 1073741824 ≤ 8589934592 := by omega
      have e1 : x.tmod 1073741824 = -(X % 1073741824) := by rw [← HX.out, ← Int.tmod_eq_emod_of_nonneg (by omega), Int.neg_tmod, Int.neg_neg]
      have e2 : x.tdiv 1073741824 = -(X / 1073741824) := by rw [← HX.out, ← Int.tdiv_eq_ediv_of_nonneg (by omega), Int.neg_tdiv, Int.neg_neg]
      generalize X % 1073741824 = r at *
      generalize X / 1073741824 = m1 at *
      go_enter Tryz.func76, Tryz.ntmps76
      go_wp2_with fail
      all_goals
        go_loopw [4, 5] (fun i v wr => ∃ (k : Nat) (ds : List Int) (m : Int), i = .int .i64 (-m) ∧ 0 < k ∧ RDh X k ds m ∧ wr.ownsRow (w.heap.size + 1) 3 1 v ds.length (ints .i64 ds) ∧ Below (w.heap.size + 1) (w.alloc (.cells #[.int .i64 0, .bool false, .slice none 0 0] 49)) wr) (fun i _ _ => (intOf i).natAbs)
        case atStart =>
          refine ⟨1, [r], m1, rfl, by omega, hst, ?_, by have := fun o => bl_alloc (Below.refl (w.alloc (.cells #[.int .i64 0, .bool false, .slice none 0 0] 49)).heap.size (w.alloc (.cells #[.int .i64 0, .bool false, .slice none 0 0] 49))) o; rw [World.size_alloc] at this; exact this _⟩
          have oo := fun y => own_one (B := w.heap.size + 1) (W := w.alloc (.cells #[.int .i64 0, .bool false, .slice none 0 0] 49)) 3 .i64 y (by simp)
          rw [World.size_alloc] at oo
          first | exact oo r | (have er := oo (-r); rw [show ints .i64 [-r] = ints .i64 [r] by rw [show -r = r by omega]] at er; exact er)
        case round =>
          clear hst
          obtain ⟨k, ds, m, rfl, hk0, hp, ho, hB⟩ := hrel
          have mm := hp.m0
          have hlim := hp.lim
          have hl := Lib.hid hp.len
          by_cases hm : 0 < m
          · have hs2 := hp.step hm
            have hm1 : m ≤ 9223372036854775808 := by omega
            have hm2 : m ≤ 8589934592 := by omega
            have hk3 : k ≤ 3 := by omega
            have q0 : 0 ≤ m % 1073741824 ∧ m % 1073741824 < 1073741824 := by omega
            have q1 : 0 ≤ m / 1073741824 ∧ m / 1073741824 < m ∧ m / 1073741824 ≤ 8 := by omega
            have f1 : (-m).tmod 1073741824 = -(m % 1073741824) := by rw [← Int.tmod_eq_emod_of_nonneg (by omega), Int.neg_tmod]
            have f2 : (-m).tdiv 1073741824 = -(m / 1073741824) := by rw [← Int.tdiv_eq_ediv_of_nonneg (by omega), Int.neg_tdiv]
            have f3 : m.tmod 1073741824 = m % 1073741824 := Int.tmod_eq_emod_of_nonneg (by omega)
            have f4 : m.tdiv 1073741824 = m / 1073741824 := Int.tdiv_eq_ediv_of_nonneg (by omega)
            have f5 : (-m == 0) = false := by simp; omega
            have f6 : (-m != 0) = true := by simp; omega
            generalize m % 1073741824 = r2 at *
            generalize m / 1073741824 = m2 at *
            clear hlim
            go_wp2_with (at_builtin; refine append_num (w.heap.size + 1) rfl _ _ 42 3 .i64 8 rfl Tryz.underlying42 HI.out (by omega) u5 ds _ rfl rfl ho hB (by have := hB.size; rw [World.size_alloc] at this; exact this) (by have := hl.out; omega) ?_; intro v1 w2 ho2 hB2)
            all_goals
              try rw [show (if -r2 < r2 then r2 else -r2) = r2 by split <;> omega] at ho2
              go_roundw
              case rel => exact ⟨k + 1, _, m2, rfl, by omega, hs2, ho2, hB2⟩
              case measure => simp [intOf]; omega
          · have hm0 : m = 0 := by omega
            subst hm0
            have ht : Trimmed ds := by rcases hp.last with h | h; exact absurd h (by omega); exact h
            have he := Lib.hid (show val 1073741824 ds = X by have := hp.eq; omega)
            have hdg := hp.dig
            have hbR : wr.heap[w.heap.size]? = some (.cells #[.int .i64 0, .bool false, .slice none 0 0] 49 (0, 0)) := (hB.block w.heap.size (by omega)).trans (blk_at _ rfl)
            have HB : Below w.heap.size w wr := (bl_alloc (Below.refl w.heap.size w) (.cells #[.int .i64 0, .bool false, .slice none 0 0] 49)).trans (hB.mono (by omega))
            rw [hl.out] at ho
            obtain ⟨A, c, rfl, hc, hr, hn⟩ := RdI.own ho
            clear hn hlim hp
            obtain ⟨⟨z1, z2, z3⟩, z4, z5, z6⟩ := bx3 hbR
            have dx : decide (x < 0) = true := by simp; omega
            have hP := Lib.hid (put3 hr hbR HB (Nat.le_refl _) (.int .i64 0) (.bool true) (.slice A k c))
            go_wp2
            refine bodyPost_ret (results_cell_row rfl _ _ w.heap.size 49 #[.int .i64 0, .bool true, .slice A k c] (0, 0) _ rfl hP.out.2.2 Tryz.underlying49 rfl (by kernel_rfl)) rfl ?_
            exact ⟨⟨_, _, _, _, _, rfl, .inr ⟨by omega, hc, rfl, ds, hP.out.1, hdg, ht, by rw [he.out]; exact X0.1, by rw [he.out]; have := HX.out; simp; omega⟩⟩, hP.out.2.1⟩
    · obtain ⟨X, hX⟩ : ∃ X, x = X := ⟨_, rfl⟩
      subst hX
      have HX := Lib.hid (Eq.refl x)
      have x0 : 2305843009213693952 ≤ x ∧ x ≤ 9223372036854775808 := by omega
      have hst := (RDh.start x (by omega) (by omega)).step (by omega)
      have r0 : 0 ≤ x % 1073741824 ∧ x % 1073741824 < 1073741824 := by omega
      have m0 : 0 ≤ x / 1073741824 ∧ x / 1073741824 ≤ 8589934592 := by omega
      generalize hr : x % 1073741824 = r at *
      generalize hm : x / 1073741824 = m1 at *
      go_enter Tryz.func76, Tryz.ntmps76
      go_wp2_with fail
      all_goals
        go_loopw [4, 5] (fun i v wr => ∃ (k : Nat) (ds : List Int) (m : Int), i = .int .i64 (m) ∧ 0 < k ∧ RDh x k ds m ∧ wr.ownsRow (w.heap.size + 1) 3 1 v ds.length (ints .i64 ds) ∧ Below (w.heap.size + 1) (w.alloc (.cells #[.int .i64 0, .bool false, .slice none 0 0] 49)) wr) (fun i _ _ => (intOf i).natAbs)
        case atStart =>
          refine ⟨1, [r], m1, rfl, by omega, hst, ?_, by have := fun o => bl_alloc (Below.refl (w.alloc (.cells #[.int .i64 0, .bool false, .slice none 0 0] 49)).heap.size (w.alloc (.cells #[.int .i64 0, .bool false, .slice none 0 0] 49))) o; rw [World.size_alloc] at this; exact this _⟩
          have oo := fun y => own_one (B := w.heap.size + 1) (W := w.alloc (.cells #[.int .i64 0, .bool false, .slice none 0 0] 49)) 3 .i64 y (by simp)
          rw [World.size_alloc] at oo
          first | exact oo r | (have er := oo (-r); rw [show ints .i64 [-r] = ints .i64 [r] by rw [show -r = r by omega]] at er; exact er)
        case round =>
          clear hst
          obtain ⟨k, ds, m, rfl, hk0, hp, ho, hB⟩ := hrel
          have mm := hp.m0
          have hlim := hp.lim
          have hl := Lib.hid hp.len
          by_cases hm : 0 < m
          · have hs2 := hp.step hm
            have hm1 : m ≤ 9223372036854775808 := by omega
            have hm2 : m ≤ 8589934592 := by omega
            have hk3 : k ≤ 3 := by omega
            have q0 : 0 ≤ m % 1073741824 ∧ m % 1073741824 < 1073741824 := by omega
            have q1 : 0 ≤ m / 1073741824 ∧ m / 1073741824 < m ∧ m / 1073741824 ≤ 8 := by omega
            clear hlim
            go_wp2_with (at_builtin; refine append_num (w.heap.size + 1) rfl _ _ 42 3 .i64 8 rfl Tryz.underlying42 HI.out (by omega) u5 ds _ rfl rfl ho hB (by have := hB.size; rw [World.size_alloc] at this; exact this) (by have := hl.out; omega) ?_; intro v1 w2 ho2 hB2)
            all_goals
              go_roundw
              case rel => exact ⟨k + 1, _, _, rfl, by omega, hs2, ho2, hB2⟩
              case measure => simp [intOf]; omega
          · have hm0 : m = 0 := by omega
            subst hm0
            have ht : Trimmed ds := by rcases hp.last with h | h; exact absurd h (by omega); exact h
            have he := Lib.hid (show val 1073741824 ds = x by have := hp.eq; omega)
            have hdg := hp.dig
            have hbR : wr.heap[w.heap.size]? = some (.cells #[.int .i64 0, .bool false, .slice none 0 0] 49 (0, 0)) := (hB.block w.heap.size (by omega)).trans (blk_at _ rfl)
            have HB : Below w.heap.size w wr := (bl_alloc (Below.refl w.heap.size w) (.cells #[.int .i64 0, .bool false, .slice none 0 0] 49)).trans (hB.mono (by omega))
            rw [hl.out] at ho
            obtain ⟨A, c, rfl, hc, hr, hn⟩ := RdI.own ho
            clear hn hlim hp
            obtain ⟨⟨z1, z2, z3⟩, z4, z5, z6⟩ := bx3 hbR
            have dx : decide (x < 0) = false := by simp; omega
            have hP := Lib.hid (put3 hr hbR HB (Nat.le_refl _) (.int .i64 0) (.bool false) (.slice A k c))
            go_wp2
            refine bodyPost_ret (results_cell_row rfl _ _ w.heap.size 49 #[.int .i64 0, .bool false, .slice A k c] (0, 0) _ rfl hP.out.2.2 Tryz.underlying49 rfl (by kernel_rfl)) rfl ?_
            exact ⟨⟨_, _, _, _, _, rfl, .inr ⟨by omega, hc, rfl, ds, hP.out.1, hdg, ht, by rw [he.out]; exact x0.1, by rw [he.out]; simp⟩⟩, hP.out.2.1⟩
end Go.Proofs.YtloplmmnmehkmaaGreat
