/- exact: Add, Sub. -/
import Derived.Test.YtjmbpeniibdnoaaInt4
set_option linter.unusedVariables false
set_option linter.unusedSimpArgs false
namespace Go.Proofs.Ytjmbpeniibdnoaa
open Go.RowKit

/-- An integer stored into a box of the call's own. -/
theorem putInt {w W : World} {v : Int} {A : Option Addr} {n c : Nat} {x : Int} {g : Nat} {a b : Value} (h : IntV W v A n c x) (hb : W.heap[g]? = some (.cells #[a, b] 61 (0, 0))) (hB : Below w.heap.size w W) (hg : w.heap.size ≤ g) :
    IntV ((W.setCell ⟨g, 0, none⟩ (.int .i64 v)).setCell ⟨g, 1, none⟩ (.slice A n c)) v A n c x ∧ Below w.heap.size w ((W.setCell ⟨g, 0, none⟩ (.int .i64 v)).setCell ⟨g, 1, none⟩ (.slice A n c)) ∧
      ((W.setCell ⟨g, 0, none⟩ (.int .i64 v)).setCell ⟨g, 1, none⟩ (.slice A n c)).heap[g]? = some (.cells #[.int .i64 v, .slice A n c] 61 (0, 0)) :=
  ⟨h.kp (((Kp.refl _ _).set (p := ⟨g, 0, none⟩) hb (by decide) _).set (p := ⟨g, 1, none⟩) (blk_set hb 0 _) (by decide) _), bl_set (bl_set hB hg _) hg _, blk_set2 hb _ _⟩

theorem sums {s t X Y x y : Int} (h1 : s = 1 ∧ 0 < X ∨ s = -1 ∧ 0 < X ∨ s = 0 ∧ X = 0) (h2 : t = 1 ∧ 0 < Y ∨ t = -1 ∧ 0 < Y ∨ t = 0 ∧ Y = 0) (e1 : x = s * X) (e2 : y = t * Y) :
    (s = 0 → y = x + y) ∧ (t = 0 → x = x + y) ∧ (s = t → s * (X + Y) = x + y) ∧ (s ≠ 0 → t ≠ 0 → s ≠ t → s * (X - Y) = x + y ∧ t * (Y - X) = x + y) := by
  rcases h1 with ⟨rfl, _⟩ | ⟨rfl, _⟩ | ⟨rfl, rfl⟩ <;> rcases h2 with ⟨rfl, _⟩ | ⟨rfl, _⟩ | ⟨rfl, rfl⟩ <;> subst e1 <;> subst e2 <;> simp <;> omega

set_option maxHeartbeats 1600000 in
set_option maxRecDepth 100000 in
theorem add_calls (v1 : Int) (A1 : Option Addr) (n1 c1 : Nat) (x : Int) (v2 : Int) (A2 : Option Addr) (n2 c2 : Nat) (y : Int) (w : World) (h1 : IntV w v1 A1 n1 c1 x) (h2 : IntV w v2 A2 n2 c2 y) (k : Nat) (s1 : Sz k x) (s2 : Sz k y) (hk : k ≤ 30000000000) :
    Calls Try.prog 74 #[.agg #[.int .i64 v1, .slice A1 n1 c1], .agg #[.int .i64 v2, .slice A2 n2 c2]] w fun e w' => ∃ (v : Int) (A : Option Addr) (n c : Nat), e = .returned (.agg #[.int .i64 v, .slice A n c]) ∧ IntV w' v A n c (x + y) ∧ Below w.heap.size w w' := by
  by_cases hnil : A1 = none ∧ A2 = none
  · obtain ⟨rfl, rfl⟩ := hnil
    rcases h1 with ⟨_, rfl, rfl, rfl, a1, a2⟩ | ⟨hA, _⟩
    · rcases h2 with ⟨_, rfl, rfl, rfl, b1, b2⟩ | ⟨hA, _⟩
      · have q := fun (w : World) => Lib.run_eql_slice_nil (P := Try.prog) w 59 118 none 0 0 0 0 Try.underlying59
        clear s1 s2 hk
        go_enter Try.func74, Try.ntmps74
        go_wp2_with fail
        refine (of_calls (v1 + v2) _ (by omega) (by omega)).mono ?_
        rintro e w' ⟨v, A, n, c, rfl, hI, hB⟩
        have hb := blk_below (blk_at (g := w.heap.size + 1 + 1) _ (by simp)) hB
        have hB0 := bl_then (bl_alloc (bl_alloc (bl_alloc (Below.refl w.heap.size w) _) _) _) hB
        obtain ⟨q1, q2, q3, q4⟩ := bx2 hb
        have hE := Lib.hid (putInt hI hb hB0 (by omega))
        clear hB
        go_wp2
        refine bodyPost_ret (results_cell_row rfl _ _ (w.heap.size + 1 + 1) 61 #[.int .i64 v, .slice A n c] (0, 0) _ rfl hE.out.2.2 Try.underlying61 rfl (by kernel_rfl)) rfl ?_
        exact ⟨_, _, _, _, rfl, hE.out.1, hE.out.2.1⟩
      · exact absurd rfl hA
    · exact absurd rfl hA
  · have hc : (∃ a, A1 = some a) ∨ (A1 = none ∧ ∃ a, A2 = some a) := by
      cases A1 with
      | some a => exact .inl ⟨a, rfl⟩
      | none => cases A2 with
        | some a => exact .inr ⟨rfl, a, rfl⟩
        | none => exact absurd ⟨rfl, rfl⟩ hnil
    clear hnil
    rcases hc with ⟨a, rfl⟩ | ⟨rfl, a, rfl⟩
    all_goals
      have Z := fun (w : World) (A : Option Addr) (n c : Nat) => Lib.run_eql_slice_nil (P := Try.prog) w 59 118 A n c 0 0 Try.underlying59
      go_enter Try.func74, Try.ntmps74
      go_wp2_with fail
      refine (digits_calls _ _ _ _ x _ (h1.kp ((((Kp.refl _ _).alloc _).alloc _).alloc _))).mono ?_
      rintro e w1 ⟨s, X1, m1, d1, xs, rfl, hD1, hB1⟩
      have hbA := blk_below (blk_alloc (blk_alloc (blk_at (g := w.heap.size) _ rfl) _) _) hB1
      have hbB := blk_below (blk_alloc (blk_at (g := w.heap.size + 1) _ (by simp)) _) hB1
      have hbR := blk_below (blk_at (g := w.heap.size + 1 + 1) _ (by simp)) hB1
      have HB := bl_then (bl_alloc (bl_alloc (bl_alloc (Below.refl w.heap.size w) _) _) _) hB1
      clear hB1
      obtain ⟨p1, p2, p3, p4⟩ := bx2 hbB
      go_wp2_with fail
      clear p1 p2 p3 p4
      refine (digits_calls _ _ _ _ y _ (h2.below HB)).mono ?_
      rintro e w2 ⟨t, X2, m2, d2, ys, rfl, hD2, hB2⟩
      replace hD1 := hD1.below hB2
      replace hbA := blk_below hbA hB2
      replace hbB := blk_below hbB hB2
      replace hbR := blk_below hbR hB2
      replace HB := bl_then HB hB2
      clear hB2
      have l1 := hD1.len s1 hk
      have l2 := hD2.len s2 hk
      have hsum := Lib.hid (sums hD1.sign hD2.sign hD1.eq hD2.eq)
      have HS1 := Lib.hid hD1.sign
      have HS2 := Lib.hid hD2.sign
      replace h1 := h1.below HB
      replace h2 := h2.below HB
      by_cases hs0 : s = 0
      · have hI := h2
        rw [hsum.out.1 hs0] at hI
        have qa : (s == 0) = true := by simpa using hs0
        clear hs0
        obtain ⟨p1, p2, p3, p4⟩ := bx2 hbB
        obtain ⟨q1, q2, q3, q4⟩ := bx2 hbR
        have hE := Lib.hid (putInt hI hbR HB (by omega))
        go_wp2
        refine bodyPost_ret (results_cell_row rfl _ _ (w.heap.size + 1 + 1) 61 #[.int .i64 v2, .slice _ n2 c2] (0, 0) _ rfl hE.out.2.2 Try.underlying61 rfl (by kernel_rfl)) rfl ?_
        exact ⟨_, _, _, _, rfl, hE.out.1, hE.out.2.1⟩
      · have qa : (s == 0) = false := by simpa using hs0
        have hs0' := Lib.hid hs0
        clear hs0
        by_cases ht0 : t = 0
        · have hI := h1
          rw [hsum.out.2.1 ht0] at hI
          have qb : (t == 0) = true := by simpa using ht0
          clear ht0
          obtain ⟨p1, p2, p3, p4⟩ := bx2 hbA
          obtain ⟨q1, q2, q3, q4⟩ := bx2 hbR
          have hE := Lib.hid (putInt hI hbR HB (by omega))
          go_wp2
          refine bodyPost_ret (results_cell_row rfl _ _ (w.heap.size + 1 + 1) 61 #[.int .i64 v1, .slice _ n1 c1] (0, 0) _ rfl hE.out.2.2 Try.underlying61 rfl (by kernel_rfl)) rfl ?_
          exact ⟨_, _, _, _, rfl, hE.out.1, hE.out.2.1⟩
        · have qb : (t == 0) = false := by simpa using ht0
          have ht0' := Lib.hid ht0
          clear ht0
          by_cases hst : s = t
          · have hv := Lib.hid (hsum.out.2.2.1 hst)
            have qc : (s == t) = true := by simpa using hst
            clear hst
            go_wp2_with fail
            refine (plus_calls _ _ _ xs _ _ _ ys _ hD1.rd hD2.rd hD1.dig hD2.dig l1 l2).mono ?_
            rintro e w3 ⟨A3, n3, c3', ds, rfl, hA3, hc3, hn3, hr3, hk3, hv3, hB3⟩
            have hv3' := Lib.hid hv3
            replace hbR := blk_below hbR hB3
            replace HB := bl_then HB hB3
            clear hB3 hA3 hv3
            go_wp2_with fail
            refine (made_calls _ _ _ _ ds _ hr3 hk3 hc3 (by have := hs0'.out; rcases HS1.out with h | h | h <;> omega)).mono ?_
            rintro e w4 ⟨v, A, n, c, rfl, hI, hB4⟩
            replace hbR := blk_below hbR hB4
            replace HB := bl_then HB hB4
            rw [hv3'.out, hv.out] at hI
            clear hB4
            obtain ⟨q1, q2, q3, q4⟩ := bx2 hbR
            have hE := Lib.hid (putInt hI hbR HB (by omega))
            go_wp2
            refine bodyPost_ret (results_cell_row rfl _ _ (w.heap.size + 1 + 1) 61 #[.int .i64 v, .slice A n c] (0, 0) _ rfl hE.out.2.2 Try.underlying61 rfl (by kernel_rfl)) rfl ?_
            exact ⟨_, _, _, _, rfl, hE.out.1, hE.out.2.1⟩
          · have hv := Lib.hid (hsum.out.2.2.2 hs0'.out ht0'.out hst)
            have qc : (s == t) = false := by simpa using hst
            clear hst
            go_wp2_with fail
            refine (compare_calls _ _ _ xs _ _ _ ys _ hD1.rd hD2.rd hD1.dig hD2.dig hD1.trim hD2.trim).mono ?_
            rintro e w3 ⟨rfl, nd, rfl⟩
            by_cases hle : val 4294967296 ys ≤ val 4294967296 xs
            · have hsg : 0 ≤ (val 4294967296 xs - val 4294967296 ys).sign := Int.sign_nonneg_iff.2 (by omega)
              have hlen : m2 ≤ m1 := by
                rcases Nat.lt_or_ge m1 m2 with h | h
                · have := val_lt_len (B := 4294967296) (by omega) hD1.dig hD2.dig hD2.trim (by rw [hD1.rd.1, hD2.rd.1]; exact h)
                  omega
                · exact h
              have hle' := Lib.hid hle
              clear hle
              generalize (val 4294967296 xs - val 4294967296 ys).sign = sg at *
              go_wp2_with fail
              refine (minus_calls _ _ _ xs _ _ _ ys _ (hD1.rd.kp ((Kp.refl _ _).drewN _)) (hD2.rd.kp ((Kp.refl _ _).drewN _)) hD1.dig hD2.dig l1 hlen hle'.out).mono ?_
              rintro e w3 ⟨A3, n3, c3', ds, rfl, hA3, hc3, hn3, hr3, hk3, hv3, hB3⟩
              have hv3' := Lib.hid hv3
              replace hbR := blk_below (blk_drewN hbR nd) hB3
              replace HB := bl_then (bl_drewN HB nd) hB3
              clear hB3 hA3 hv3 hn3
              go_wp2_with fail
              refine (made_calls _ _ _ _ ds _ hr3 hk3 hc3 (by have := hs0'.out; rcases HS1.out with h | h | h <;> omega)).mono ?_
              rintro e w4 ⟨v, A, n, c, rfl, hI, hB4⟩
              replace hbR := blk_below hbR hB4
              replace HB := bl_then HB hB4
              rw [hv3'.out, hv.out.1] at hI
              clear hB4
              obtain ⟨q1, q2, q3, q4⟩ := bx2 hbR
              have hE := Lib.hid (putInt hI hbR HB (by omega))
              go_wp2
              refine bodyPost_ret (results_cell_row rfl _ _ (w.heap.size + 1 + 1) 61 #[.int .i64 v, .slice A n c] (0, 0) _ rfl hE.out.2.2 Try.underlying61 rfl (by kernel_rfl)) rfl ?_
              exact ⟨_, _, _, _, rfl, hE.out.1, hE.out.2.1⟩
            · have hsg : (val 4294967296 xs - val 4294967296 ys).sign < 0 := Int.sign_neg_iff.2 (by omega)
              have hlen : m1 ≤ m2 := by
                rcases Nat.lt_or_ge m2 m1 with h | h
                · have := val_lt_len (B := 4294967296) (by omega) hD2.dig hD1.dig hD1.trim (by rw [hD1.rd.1, hD2.rd.1]; exact h)
                  omega
                · exact h
              have hle' := Lib.hid (show val 4294967296 xs ≤ val 4294967296 ys by omega)
              clear hle
              generalize (val 4294967296 xs - val 4294967296 ys).sign = sg at *
              go_wp2_with fail
              refine (minus_calls _ _ _ ys _ _ _ xs _ (hD2.rd.kp ((Kp.refl _ _).drewN _)) (hD1.rd.kp ((Kp.refl _ _).drewN _)) hD2.dig hD1.dig l2 hlen hle'.out).mono ?_
              rintro e w3 ⟨A3, n3, c3', ds, rfl, hA3, hc3, hn3, hr3, hk3, hv3, hB3⟩
              have hv3' := Lib.hid hv3
              replace hbR := blk_below (blk_drewN hbR nd) hB3
              replace HB := bl_then (bl_drewN HB nd) hB3
              clear hB3 hA3 hv3 hn3
              go_wp2_with fail
              refine (made_calls _ _ _ _ ds _ hr3 hk3 hc3 (by have := ht0'.out; rcases HS2.out with h | h | h <;> omega)).mono ?_
              rintro e w4 ⟨v, A, n, c, rfl, hI, hB4⟩
              replace hbR := blk_below hbR hB4
              replace HB := bl_then HB hB4
              rw [hv3'.out, hv.out.2] at hI
              clear hB4
              obtain ⟨q1, q2, q3, q4⟩ := bx2 hbR
              have hE := Lib.hid (putInt hI hbR HB (by omega))
              go_wp2
              refine bodyPost_ret (results_cell_row rfl _ _ (w.heap.size + 1 + 1) 61 #[.int .i64 v, .slice A n c] (0, 0) _ rfl hE.out.2.2 Try.underlying61 rfl (by kernel_rfl)) rfl ?_
              exact ⟨_, _, _, _, rfl, hE.out.1, hE.out.2.1⟩
end Go.Proofs.Ytjmbpeniibdnoaa
