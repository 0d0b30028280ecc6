/- exact: Quo. -/
import Derived.Test.YtjmbpeniibdnoaaLong
import Derived.Test.YtjmbpeniibdnoaaQuoMath
set_option linter.unusedVariables false
set_option linter.unusedSimpArgs false
namespace Go.Proofs.Ytjmbpeniibdnoaa
open Go.RowKit

theorem RdI.one (W : World) (a : Int) (g : Nat) (hg : g = W.heap.size) : RdI (W.alloc (.cells #[.int .u32 a] 118)) 118 .u32 (some ⟨g, 0, none⟩) 1 [a] := by
  refine ⟨rfl, by omega, fun _ => ⟨g, 0, _, (0, 0), rfl, blk_at _ hg, fun j hj => ?_⟩⟩
  match j, hj with
  | 0, _ => rfl

set_option maxHeartbeats 1600000 in
set_option maxRecDepth 100000 in
theorem quo_calls (v1 : Int) (A1 : Option Addr) (n1 c1 : Nat) (x : Int) (v2 : Int) (A2 : Option Addr) (n2 c2 : Nat) (y : Int) (w : World) (h1 : IntV w v1 A1 n1 c1 x) (h2 : IntV w v2 A2 n2 c2 y) (k : Nat) (s1 : Sz k x) (s2 : Sz k y) (hk : k ≤ 30000000000) (hy : y ≠ 0) :
    Calls Try.prog 63 #[.agg #[.int .i64 v1, .slice A1 n1 c1], .agg #[.int .i64 v2, .slice A2 n2 c2]] w fun e w' => ∃ (v : Int) (A : Option Addr) (n c : Nat) (v' : Int) (A' : Option Addr) (n' c' : Nat), e = .returned (.tuple #[.agg #[.int .i64 v, .slice A n c], .agg #[.int .i64 v', .slice A' n' c']]) ∧ IntV w' v A n c (x.tdiv y) ∧ IntV w' v' A' n' c' (x.tmod y) ∧ Below w.heap.size w w' := by
  by_cases hnil : A1 = none ∧ A2 = none
  · obtain ⟨rfl, rfl⟩ := hnil
    rcases h1 with ⟨_, rfl, rfl, rfl, a1, a2⟩ | ⟨hA, _⟩
    · rcases h2 with ⟨_, rfl, rfl, rfl, b1, b2⟩ | ⟨hA, _⟩
      · have q := fun (w : World) => Lib.run_eql_slice_nil (P := Try.prog) w 59 118 none 0 0 0 0 Try.underlying59
        clear s1 s2 hk
        have t1 := tdiv_abs v1 v2
        have t2 := tmod_abs v1 v2
        have wq : IntKind.i64.wrap (v1.tdiv v2) = v1.tdiv v2 := by rw [IntKind.wrap_i64]; omega
        have wr : IntKind.i64.wrap (v1.tmod v2) = v1.tmod v2 := by rw [IntKind.wrap_i64]; omega
        have zq : (v2 == 0) = false := by simpa using hy
        go_enter Try.func63, Try.ntmps63
        go_wp2_with fail
        go_region
        go_wp2
        refine bodyPost_ret (results_cells_row rfl _ _ (w.heap.size + 1 + 1) (w.heap.size + 1 + 1 + 1) 61 61 #[.int .i64 (v1.tdiv v2), .slice none 0 0] #[.int .i64 (v1.tmod v2), .slice none 0 0] (0, 0) (0, 0) _ _ rfl (blk_drew (blk_alloc (blk_at _ (by simp)) _)) Try.underlying61 rfl (by kernel_rfl) rfl (blk_drew (blk_at _ (by simp))) Try.underlying61 rfl (by kernel_rfl)) rfl ?_
        exact ⟨_, _, _, _, _, _, _, _, rfl, IntV.small _ (by omega) (by omega), IntV.small _ (by omega) (by omega), bl_drew (bl_alloc (bl_alloc (bl_alloc (bl_alloc (Below.refl w.heap.size w) _) _) _) _)⟩
      · exact absurd rfl hA
    · exact absurd rfl hA
  · have hc : (∃ a, A1 = some a) ∨ (A1 = none ∧ ∃ a, A2 = some a) := by
      cases A1 with
      | some a => exact .inl ⟨a, rfl⟩
      | none => cases A2 with
        | some a => exact .inr ⟨rfl, a, rfl⟩
        | none => exact absurd ⟨rfl, rfl⟩ hnil
    clear hnil
    rcases hc with ⟨a, rfl⟩ | ⟨rfl, a, rfl⟩
    all_goals
      have Z := fun (w : World) (A : Option Addr) (n c : Nat) => Lib.run_eql_slice_nil (P := Try.prog) w 59 118 A n c 0 0 Try.underlying59
      go_enter Try.func63, Try.ntmps63
      go_wp2_with fail
      refine (digits_calls _ _ _ _ x _ (h1.kp (((((Kp.refl _ _).alloc _).alloc _).alloc _).alloc _))).mono ?_
      rintro e w1 ⟨s, X1, m1, d1, xs, rfl, hD1, hB1⟩
      have hbA := blk_below (blk_alloc (blk_alloc (blk_alloc (blk_at (g := w.heap.size) _ rfl) _) _) _) hB1
      have hbB := blk_below (blk_alloc (blk_alloc (blk_at (g := w.heap.size + 1) _ (by simp)) _) _) hB1
      have hbR := blk_below (blk_alloc (blk_at (g := w.heap.size + 1 + 1) _ (by simp)) _) hB1
      have hbS := blk_below (blk_at (g := w.heap.size + 1 + 1 + 1) _ (by simp)) hB1
      have HB := bl_then (bl_alloc (bl_alloc (bl_alloc (bl_alloc (Below.refl w.heap.size w) _) _) _) _) hB1
      clear hB1
      obtain ⟨p1, p2, p3, p4⟩ := bx2 hbB
      go_wp2_with fail
      clear p1 p2 p3 p4
      refine (digits_calls _ _ _ _ y _ (h2.below HB)).mono ?_
      rintro e w2 ⟨t, X2, m2, d2, ys, rfl, hD2, hB2⟩
      replace hD1 := hD1.below hB2
      replace hbA := blk_below hbA hB2
      replace hbR := blk_below hbR hB2
      replace hbS := blk_below hbS hB2
      replace HB := bl_then HB hB2
      clear hB2 hbB
      have l1 := hD1.len s1 hk
      have l2 := hD2.len s2 hk
      have HS1 := Lib.hid hD1.sign
      have ht0 : t = 1 ∨ t = -1 := by
        rcases hD2.sign with ⟨e, _⟩ | ⟨e, _⟩ | ⟨e, e2⟩
        · exact .inl e
        · exact .inr e
        · exact absurd (by rw [hD2.eq, e, Int.zero_mul]) hy
      have hYp : 0 < val 4294967296 ys := by
        rcases hD2.sign with ⟨_, e⟩ | ⟨_, e⟩ | ⟨e, e2⟩
        · exact e
        · exact e
        · exact absurd (by rw [hD2.eq, e, Int.zero_mul]) hy
      have HT := Lib.hid ht0
      have HYP := Lib.hid hYp
      have HE1 := Lib.hid hD1.eq
      have HE2 := Lib.hid hD2.eq
      clear ht0 hYp
      replace h1 := h1.below HB
      go_wp2_with fail
      refine (compare_calls _ _ _ xs _ _ _ ys _ hD1.rd hD2.rd hD1.dig hD2.dig hD1.trim hD2.trim).mono ?_
      rintro e w3 ⟨rfl, nd, rfl⟩
      replace hD1 := hD1.kp (by exact (Kp.refl _ _).drewN nd)
      replace hD2 := hD2.kp (by exact (Kp.refl _ _).drewN nd)
      replace h1 := h1.kp (by exact (Kp.refl _ _).drewN nd)
      replace HB := bl_drewN HB nd
      have hbA' : (w2.drewN nd).heap[w.heap.size]? = _ := hbA
      have hbR' : (w2.drewN nd).heap[w.heap.size + 1 + 1]? = _ := hbR
      have hbS' : (w2.drewN nd).heap[w.heap.size + 1 + 1 + 1]? = _ := hbS
      clear hbA hbR hbS
      generalize w2.drewN nd = w4 at *
      rcases Int.lt_or_le (val 4294967296 xs) (val 4294967296 ys) with hlt | hge
      · have hsg : (val 4294967296 xs - val 4294967296 ys).sign = -1 := Int.sign_eq_neg_one_of_neg (by omega)
        have hQ := quo_lt HS1.out HT.out HE1.out HE2.out hlt
        rw [hsg]
        clear hsg hlt
        obtain ⟨p1, p2, p3, p4⟩ := bx2 hbA'
        obtain ⟨q1, q2, q3, q4⟩ := bx2 hbR'
        obtain ⟨r1, r2, r3, r4⟩ := bx2 hbS'
        go_wp2_with fail
        have hE := Lib.hid (putInt2 (IntV.small w4 (x := 0) (by omega) (by omega)) h1 hbR' hbS' HB (by omega) (by omega) (by omega))
        go_region
        go_wp2
        refine bodyPost_ret (results_cells_row rfl _ _ (w.heap.size + 1 + 1) (w.heap.size + 1 + 1 + 1) 61 61 #[.int .i64 0, .slice none 0 0] #[.int .i64 v1, .slice _ n1 c1] (0, 0) (0, 0) _ _ rfl (blk_drew hE.out.2.2.2.1) Try.underlying61 rfl (by kernel_rfl) rfl (blk_drew hE.out.2.2.2.2) Try.underlying61 rfl (by kernel_rfl)) rfl ?_
        exact ⟨_, _, _, _, _, _, _, _, rfl, hE.out.1.kp (by exact (Kp.refl _ _).drew), hE.out.2.1.kp (by exact (Kp.refl _ _).drew), bl_drew hE.out.2.2.1⟩
      · have hYP2 := HYP.out
        have hsx : s = 1 ∨ s = -1 := by
          rcases HS1.out with ⟨e, _⟩ | ⟨e, _⟩ | ⟨e, e2⟩
          · exact .inl e
          · exact .inr e
          · omega
        have hsg : decide ((val 4294967296 xs - val 4294967296 ys).sign < 0) = false := by
          rcases Int.lt_or_eq_of_le hge with h | h
          · rw [Int.sign_eq_one_of_pos (by omega)]; rfl
          · rw [show val 4294967296 xs - val 4294967296 ys = 0 by omega]; rfl
        generalize (val 4294967296 xs - val 4294967296 ys).sign = sg at *
        have hst : s * t = 1 ∨ s * t = -1 := by
          rcases hsx with rfl | rfl <;> rcases HT.out with rfl | rfl <;> simp
        generalize est : s * t = st at *
        have hst2 : -1 ≤ st ∧ st ≤ 1 := by omega
        have HST := Lib.hid hst
        have HSX := Lib.hid hsx
        clear hst hsx
        by_cases hone : m2 = 1
        · subst hone
          obtain ⟨gy, oy, rfl, ly, cy⟩ := hD2.rd.at_ (by omega)
          have cy0 : w4.cell? ⟨gy, oy, none⟩ = some (.int .u32 (ys.getD 0 0)) := cy 0 (by omega)
          have dy0 := hD2.dig.at 0 (by omega)
          have ey : val 4294967296 ys = ys.getD 0 0 := by rw [digits_two (by rw [hD2.rd.1]; omega), show ys.getD 1 0 = 0 by rw [List.getD_eq_getElem?_getD, List.getElem?_eq_none (by rw [hD2.rd.1]; omega)]; rfl]; omega
          clear cy
          generalize ys.getD 0 0 = yd at *
          have EY := Lib.hid ey
          go_wp2_with fail
          refine (short_calls X1 m1 d1 xs yd _ hD1.rd hD1.dig l1 (by have := EY.out; omega) dy0.2).mono ?_
          rintro e w5 ⟨A, n, c, qs, r, rfl, hc5, rfl, hr5, hd5, hr0, hr1, hv5, hB5⟩
          replace HB := bl_then HB hB5
          replace hbR' := blk_below hbR' hB5
          replace hbS' := blk_below hbS' hB5
          clear hB5
          have hQ0 := (quo_eq HSX.out HT.out HE1.out HE2.out (by rw [EY.out]; exact hv5) (val_nonneg (by omega) hd5) hr0 (by rw [EY.out]; exact hr1))
          rw [est] at hQ0
          have hQ := Lib.hid hQ0
          clear hQ0
          have hdr : Dig 4294967296 [r] := by intro z hz; simp at hz; subst hz; omega
          go_wp2_with fail
          refine (made_calls st A n c qs _ (hr5) hd5 hc5 (by have := HST.out; omega)).mono ?_
          rintro e w6 ⟨v, A6, n6, c6, rfl, hI6, hB6⟩
          replace HB := bl_then HB hB6
          replace hbR' := blk_below hbR' hB6
          replace hbS' := blk_below hbS' hB6
          clear hB6
          go_wp2_with fail
          refine (made_calls s _ _ _ [r] _ (RdI.one w6 r _ rfl) hdr (Nat.le_refl _) (by have := HSX.out; omega)).mono ?_
          rintro e w7 ⟨v', A7, n7, c7, rfl, hI7, hB7⟩
          replace HB := bl_then (bl_alloc HB _) hB7
          replace hbR' := blk_below (blk_alloc hbR' _) hB7
          replace hbS' := blk_below (blk_alloc hbS' _) hB7
          replace hI6 := (hI6.kp ((Kp.refl _ _).alloc _)).below hB7
          rw [show val 4294967296 [r] = r by simp [val]] at hI7
          clear hB7
          rw [hQ.out.1] at hI6
          rw [hQ.out.2] at hI7
          obtain ⟨q1, q2, q3, q4⟩ := bx2 hbR'
          obtain ⟨r1, r2, r3, r4⟩ := bx2 hbS'
          have hE := Lib.hid (putInt2 hI6 hI7 hbR' hbS' HB (by omega) (by omega) (by omega))
          go_wp2_with fail
          try go_region
          go_wp2
          refine bodyPost_ret (results_cells_row rfl _ _ (w.heap.size + 1 + 1) (w.heap.size + 1 + 1 + 1) 61 61 #[.int .i64 v, .slice A6 n6 c6] #[.int .i64 v', .slice A7 n7 c7] (0, 0) (0, 0) _ _ rfl (by exact hE.out.2.2.2.1) Try.underlying61 rfl (by kernel_rfl) rfl (by exact hE.out.2.2.2.2) Try.underlying61 rfl (by kernel_rfl)) rfl ?_
          exact ⟨_, _, _, _, _, _, _, _, rfl, hE.out.1.kp (by first | exact (Kp.refl _ _).drew | exact Kp.refl _ _), hE.out.2.1.kp (by first | exact (Kp.refl _ _).drew | exact Kp.refl _ _), by first | exact bl_drew hE.out.2.2.1 | exact hE.out.2.2.1⟩
        · obtain ⟨p, rfl⟩ : ∃ p, m2 = p + 2 := by
            rcases m2 with _ | _ | p
            · exfalso
              have := hD2.rd.1
              rw [List.eq_nil_of_length_eq_zero this] at hYP2
              simp [val] at hYP2
            · exact absurd rfl hone
            · exact ⟨p, rfl⟩
          have hle : p + 2 ≤ m1 := by
            apply Nat.not_lt.1
            intro hc
            have b1 := val_lt (B := 4294967296) (by omega) hD1.dig
            have b2 := Trimmed.le (B := 4294967296) (by omega) hD2.dig hD2.trim (by intro e; have := hD2.rd.1; rw [e] at this; simp at this)
            have b3 := pow_mono (B := 4294967296) (by omega) (show xs.length ≤ ys.length - 1 by have := hD1.rd.1; have := hD2.rd.1; omega)
            omega
          have htop : 0 < ys.getD (p + 1) 0 := by
            rcases hD2.trim with e | e
            · have := hD2.rd.1; rw [e] at this; simp at this
            · have h2 := hD2.rd.1
              rw [h2] at e
              exact e
          go_wp2_with fail
          refine (long_calls X1 m1 d1 xs X2 p d2 ys _ hD1.rd hD2.rd hD1.dig hD2.dig l1 hle hD1.cap hD2.cap htop).mono ?_
          rintro e w5 ⟨A, n, c, qs, A', n', c', rs, rfl, hc5, hc5', hr5, hr5', hd5, hd5', hv5, hlt5, hB5⟩
          replace HB := bl_then HB hB5
          replace hbR' := blk_below hbR' hB5
          replace hbS' := blk_below hbS' hB5
          clear hB5
          have hQ0 := (quo_eq HSX.out HT.out HE1.out HE2.out hv5 (val_nonneg (by omega) hd5) (val_nonneg (by omega) hd5') hlt5)
          rw [est] at hQ0
          have hQ := Lib.hid hQ0
          clear hQ0
          go_wp2_with fail
          refine (made_calls st A n c qs _ (hr5) hd5 hc5 (by have := HST.out; omega)).mono ?_
          rintro e w6 ⟨v, A6, n6, c6, rfl, hI6, hB6⟩
          replace HB := bl_then HB hB6
          replace hbR' := blk_below hbR' hB6
          replace hbS' := blk_below hbS' hB6
          replace hr5' := hr5'.below hB6
          clear hB6
          go_wp2_with fail
          refine (made_calls s A' n' c' rs _ (hr5') (hd5') (hc5') (by have := HSX.out; omega)).mono ?_
          rintro e w7 ⟨v', A7, n7, c7, rfl, hI7, hB7⟩
          replace HB := bl_then HB hB7
          replace hbR' := blk_below hbR' hB7
          replace hbS' := blk_below hbS' hB7
          replace hI6 := hI6.below hB7
          clear hB7
          rw [hQ.out.1] at hI6
          rw [hQ.out.2] at hI7
          obtain ⟨q1, q2, q3, q4⟩ := bx2 hbR'
          obtain ⟨r1, r2, r3, r4⟩ := bx2 hbS'
          have hE := Lib.hid (putInt2 hI6 hI7 hbR' hbS' HB (by omega) (by omega) (by omega))
          go_wp2_with fail
          try go_region
          go_wp2
          refine bodyPost_ret (results_cells_row rfl _ _ (w.heap.size + 1 + 1) (w.heap.size + 1 + 1 + 1) 61 61 #[.int .i64 v, .slice A6 n6 c6] #[.int .i64 v', .slice A7 n7 c7] (0, 0) (0, 0) _ _ rfl (by exact hE.out.2.2.2.1) Try.underlying61 rfl (by kernel_rfl) rfl (by exact hE.out.2.2.2.2) Try.underlying61 rfl (by kernel_rfl)) rfl ?_
          exact ⟨_, _, _, _, _, _, _, _, rfl, hE.out.1.kp (by first | exact (Kp.refl _ _).drew | exact Kp.refl _ _), hE.out.2.1.kp (by first | exact (Kp.refl _ _).drew | exact Kp.refl _ _), by first | exact bl_drew hE.out.2.2.1 | exact hE.out.2.2.1⟩
end Go.Proofs.Ytjmbpeniibdnoaa
