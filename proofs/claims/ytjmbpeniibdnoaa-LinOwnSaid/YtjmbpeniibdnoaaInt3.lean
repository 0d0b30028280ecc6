/- exact: made, digits, Of. -/
import Derived.Test.YtjmbpeniibdnoaaInt2
set_option linter.unusedVariables false
set_option linter.unusedSimpArgs false
namespace Go.Proofs.Ytjmbpeniibdnoaa
open Go.RowKit

theorem digits_two {ds : List Int} (h : ds.length ≤ 2) : val 4294967296 ds = ds.getD 0 0 + 4294967296 * ds.getD 1 0 := by
  match ds, h with
  | [], _ => simp [val]
  | [a], _ => simp [val]
  | [a, b], _ => simp [val]

theorem or_zero (x : Int) (h0 : 0 ≤ x) (h1 : x < 18446744073709551616) : bits BinOp.or IntKind.u64 0 x = x := by
  obtain ⟨x, rfl⟩ := Int.eq_ofNat_of_zero_le h0
  rw [show (0 : Int) = ((0 : Nat) : Int) from rfl, u64_or_nat _ _ (by omega) (by omega)]
  simp

/-- A block of one type in the place of another one of that type. -/
theorem Kp.retag {t t' : TypeId} (w : World) (a b : Array Value) (hne : t' ≠ t := by decide) : Kp t (w.alloc (.cells a t' (0, 0))) (w.alloc (.cells b t' (0, 0))) :=
  ⟨fun g cs fr h => by
    by_cases e : g = w.heap.size
    · rw [blk_at _ e] at h
      injection h with h
      injection h with _ h _
      exact absurd h hne
    · have h1 : g < (w.alloc (.cells a t' (0, 0))).heap.size := blk_lt h
      have h2 : g < w.heap.size := by simp at h1; omega
      rw [Below.heap_alloc _ _ _ h2] at h ⊢
      exact h⟩

theorem big_of {w : World} {A : Option Addr} {m c : Nat} {es : List Int} {s X : Int} (hr : RdI w 118 .u32 A m es) (kd : Dig 4294967296 es) (ht : Trimmed es) (hv : val 4294967296 es = X)
    (hs : s = 1 ∨ s = -1 ∨ s = 0 ∧ X = 0) (hX : 4611686018427387904 ≤ X) (hc : m ≤ c) : IntV w s A m c (s * X) := by
  refine .inr ⟨?_, hc, by omega, es, hr, kd, ht, by omega, by rw [hv]⟩
  intro e
  have h0 : 0 < m := by
    rcases Nat.eq_zero_or_pos m with h | h
    · have := hr.1
      rw [h] at this
      rw [List.eq_nil_of_length_eq_zero this] at hv
      simp [val] at hv
      omega
    · exact h
  obtain ⟨g, off, h, _⟩ := hr.at_ h0
  rw [e] at h
  simp at h
theorem big_of2 {w : World} {A : Option Addr} {m c : Nat} {es : List Int} {s X : Int} (hr : RdI w 118 .u32 A m es) (kd : Dig 4294967296 es) (ht : Trimmed es) (hv : val 4294967296 es = X)
    (hs : s = 1 ∨ s = -1 ∨ s = 0 ∧ X = 0) (hm : 3 ≤ m) (hc : m ≤ c) : IntV w s A m c (s * X) := by
  have h1 := Trimmed.le (by omega) kd ht (by intro e; have := hr.1; rw [e] at this; simp at this; omega)
  have h2 := pow_mono (B := 4294967296) (by omega) (show 2 ≤ es.length - 1 by have := hr.1; omega)
  exact big_of hr kd ht hv hs (by omega) hc

set_option maxHeartbeats 800000 in
set_option maxRecDepth 100000 in
theorem made_calls (s : Int) (A : Option Addr) (n c : Nat) (ds : List Int) (w : World) (h1 : RdI w 118 .u32 A n ds) (k1 : Dig 4294967296 ds) (hc : n ≤ c)
    (hs : s = 1 ∨ s = -1 ∨ s = 0 ∧ val 4294967296 ds = 0) :
    Calls Try.prog 79 #[.int .i64 s, .slice A n c] w fun e w' => ∃ (v : Int) (A' : Option Addr) (n' c' : Nat), e = .returned (.agg #[.int .i64 v, .slice A' n' c']) ∧ IntV w' v A' n' c' (s * val 4294967296 ds) ∧ Below w.heap.size w w' := by
  generalize hX : val 4294967296 ds = X at *
  have HX := Lib.hid hX
  have hs' := Lib.hid hs
  clear hs hX
  go_enter Try.func79, Try.ntmps79
  go_wp2_with fail
  refine (trim_calls A n c ds _ (h1.kp ((Kp.refl _ _).alloc _)) k1 hc).mono ?_
  rintro e w' ⟨m, rfl, hm, hr, ht, hv, rfl⟩
  have kd := k1.take m
  generalize ds.take m = es at *
  have hv' := Lib.hid (hv.trans HX.out)
  clear hv HX
  have hl := Lib.hid hr.1
  have hcm : m ≤ c := by omega
  by_cases h2 : m ≤ 2
  · have kd0 := kd.at 0 (by omega)
    have kd1 := kd.at 1 (by omega)
    have hvv := Lib.hid ((digits_two (by rw [hl.out]; exact h2)).symm.trans hv'.out)
    have cg : 0 < m → ∃ g off, A = some ⟨g, off, none⟩ ∧ (w.alloc (Obj.cells #[Value.int IntKind.i64 0, Value.slice none 0 0] 61)).cell? ⟨g, off, none⟩ = some (.int .u32 (es.getD 0 0)) ∧ (1 < m → (w.alloc (Obj.cells #[Value.int IntKind.i64 0, Value.slice none 0 0] 61)).cell? ⟨g, off + 1, none⟩ = some (.int .u32 (es.getD 1 0))) := fun h0 => by
      obtain ⟨g, off, e, lg, cg⟩ := hr.at_ h0
      exact ⟨g, off, e, cg 0 h0, fun h1 => cg 1 h1⟩
    have z0 : m = 0 → es.getD 0 0 = 0 := fun h0 => by rw [List.getD_eq_getElem?_getD, List.getElem?_eq_none (by rw [hl.out]; omega)]; rfl
    have z1 : m ≤ 1 → es.getD 1 0 = 0 := fun h0 => by rw [List.getD_eq_getElem?_getD, List.getElem?_eq_none (by rw [hl.out]; omega)]; rfl
    generalize es.getD 0 0 = x0 at *
    generalize es.getD 1 0 = x1 at *
    have Z0 := Lib.hid z0
    have Z1 := Lib.hid z1
    have CG := Lib.hid cg
    clear z0 z1 cg
    go_wp2
    go_loop [5, 6, 7, 15] (fun u i x k => (k = .int .i64 0 ∧ u = .int .u64 0) ∨ (k = .int .i64 1 ∧ u = .int .u64 x0 ∧ 1 ≤ m) ∨ (k = .int .i64 2 ∧ u = .int .u64 (x1 * 4294967296 + x0) ∧ 2 ≤ m)) (fun _ _ _ k => m - (intOf k).toNat)
    case atStart => exact .inl ⟨rfl, rfl⟩
    case round =>
      rcases hrel with ⟨rfl, rfl⟩ | ⟨rfl, rfl, hm1⟩ | ⟨rfl, rfl, hm2⟩
      · by_cases hlt : 0 < m
        · obtain ⟨g, off, rfl, c0, c1⟩ := CG.out hlt
          clear c1
          have hj := or_zero x0 kd0.1 (by omega)
          go_wp2
          exact ⟨.inr (.inl ⟨rfl, by simp, by omega⟩), by simp [intOf]; omega⟩
        · have e0 : m = 0 := by omega
          have e1 := Z0.out e0
          have e2 := Z1.out (by omega)
          have eX : X = 0 := by have := hvv.out; omega
          have hY0 : 0 ≤ X := by omega
          have hY1 : X < 18446744073709551616 := by omega
          clear e1 e2
          rw [show (Value.int .u64 0) = Value.int .u64 X by rw [eX]]
          have eX' := Lib.hid eX
          clear eX e0
          by_cases hY : X < 4611686018427387904
          · rcases hs'.out with rfl | rfl | ⟨rfl, h0⟩
            · go_wp2
              refine bodyPost_ret (results_cell_row rfl _ _ w.heap.size 61 #[.int .i64 X, .slice none 0 0] (0, 0) _ rfl (blk_at _ rfl) Try.underlying61 rfl (by kernel_rfl)) rfl ?_
              exact ⟨_, _, _, _, rfl, by exact IntV.small _ (by omega) (by omega), (Below.refl _ _).alloc (Nat.le_refl _) _⟩
            · go_wp2
              refine bodyPost_ret (results_cell_row rfl _ _ w.heap.size 61 #[.int .i64 (-X), .slice none 0 0] (0, 0) _ rfl (blk_at _ rfl) Try.underlying61 rfl (by kernel_rfl)) rfl ?_
              exact ⟨_, _, _, _, rfl, by exact IntV.small _ (by omega) (by omega), (Below.refl _ _).alloc (Nat.le_refl _) _⟩
            · go_wp2
              refine bodyPost_ret (results_cell_row rfl _ _ w.heap.size 61 #[.int .i64 0, .slice none 0 0] (0, 0) _ rfl (blk_at _ rfl) Try.underlying61 rfl (by kernel_rfl)) rfl ?_
              exact ⟨_, _, _, _, rfl, by exact IntV.small _ (by omega) (by omega), (Below.refl _ _).alloc (Nat.le_refl _) _⟩
          · exfalso; have := eX'.out; omega
      · by_cases hlt : 1 < m
        · obtain ⟨g, off, rfl, c0, c1⟩ := CG.out (by omega)
          have c1 := c1 hlt
          clear c0
          have hj := join32' x1 x0 kd1.1 kd1.2 kd0.1 kd0.2
          go_wp2
          exact ⟨.inr (.inr ⟨rfl, by simp, by omega⟩), by simp [intOf]; omega⟩
        · have e2 := Z1.out (by omega)
          have eX := hvv.out
          rw [e2, Int.mul_zero, Int.add_zero] at eX
          have eX := eX.symm
          subst eX
          clear e2
          have hY0 := kd0.1
          have hY1 : X < 18446744073709551616 := by omega
          by_cases hY : X < 4611686018427387904
          · rcases hs'.out with rfl | rfl | ⟨rfl, h0⟩
            · go_wp2
              refine bodyPost_ret (results_cell_row rfl _ _ w.heap.size 61 #[.int .i64 X, .slice none 0 0] (0, 0) _ rfl (blk_at _ rfl) Try.underlying61 rfl (by kernel_rfl)) rfl ?_
              exact ⟨_, _, _, _, rfl, by exact IntV.small _ (by omega) (by omega), (Below.refl _ _).alloc (Nat.le_refl _) _⟩
            · go_wp2
              refine bodyPost_ret (results_cell_row rfl _ _ w.heap.size 61 #[.int .i64 (-X), .slice none 0 0] (0, 0) _ rfl (blk_at _ rfl) Try.underlying61 rfl (by kernel_rfl)) rfl ?_
              exact ⟨_, _, _, _, rfl, by exact IntV.small _ (by omega) (by omega), (Below.refl _ _).alloc (Nat.le_refl _) _⟩
            · go_wp2
              refine bodyPost_ret (results_cell_row rfl _ _ w.heap.size 61 #[.int .i64 0, .slice none 0 0] (0, 0) _ rfl (blk_at _ rfl) Try.underlying61 rfl (by kernel_rfl)) rfl ?_
              exact ⟨_, _, _, _, rfl, by exact IntV.small _ (by omega) (by omega), (Below.refl _ _).alloc (Nat.le_refl _) _⟩
          · exfalso; omega
      · have hlt : ¬ 2 < m := by omega
        have eX : x1 * 4294967296 + x0 = X := by have := hvv.out; omega
        have hY0 : 0 ≤ x1 * 4294967296 + x0 := by omega
        have hY1 : x1 * 4294967296 + x0 < 18446744073709551616 := by omega
        rw [eX] at hY0 hY1 ⊢
        clear eX
        by_cases hY : X < 4611686018427387904
        · rcases hs'.out with rfl | rfl | ⟨rfl, h0⟩
          · go_wp2
            refine bodyPost_ret (results_cell_row rfl _ _ w.heap.size 61 #[.int .i64 X, .slice none 0 0] (0, 0) _ rfl (blk_at _ rfl) Try.underlying61 rfl (by kernel_rfl)) rfl ?_
            exact ⟨_, _, _, _, rfl, by exact IntV.small _ (by omega) (by omega), (Below.refl _ _).alloc (Nat.le_refl _) _⟩
          · go_wp2
            refine bodyPost_ret (results_cell_row rfl _ _ w.heap.size 61 #[.int .i64 (-X), .slice none 0 0] (0, 0) _ rfl (blk_at _ rfl) Try.underlying61 rfl (by kernel_rfl)) rfl ?_
            exact ⟨_, _, _, _, rfl, by exact IntV.small _ (by omega) (by omega), (Below.refl _ _).alloc (Nat.le_refl _) _⟩
          · go_wp2
            refine bodyPost_ret (results_cell_row rfl _ _ w.heap.size 61 #[.int .i64 0, .slice none 0 0] (0, 0) _ rfl (blk_at _ rfl) Try.underlying61 rfl (by kernel_rfl)) rfl ?_
            exact ⟨_, _, _, _, rfl, by exact IntV.small _ (by omega) (by omega), (Below.refl _ _).alloc (Nat.le_refl _) _⟩
        · have hbig := Lib.hid (big_of hr kd ht hv'.out hs'.out (by omega) hcm)
          go_wp2
          refine bodyPost_ret (results_cell_row rfl _ _ w.heap.size 61 #[.int .i64 s, .slice A m c] (0, 0) _ rfl (blk_at _ rfl) Try.underlying61 rfl (by kernel_rfl)) rfl ?_
          exact ⟨_, _, _, _, rfl, hbig.out.kp (Kp.retag _ _ _), (Below.refl _ _).alloc (Nat.le_refl _) _⟩
  · have hbig := Lib.hid (big_of2 hr kd ht hv'.out hs'.out (by omega) hcm)
    go_wp2
    refine bodyPost_ret (results_cell_row rfl _ _ w.heap.size 61 #[.int .i64 s, .slice A m c] (0, 0) _ rfl (blk_at _ rfl) Try.underlying61 rfl (by kernel_rfl)) rfl ?_
    exact ⟨_, _, _, _, rfl, hbig.out.kp (Kp.retag _ _ _), (Below.refl _ _).alloc (Nat.le_refl _) _⟩
end Go.Proofs.Ytjmbpeniibdnoaa
