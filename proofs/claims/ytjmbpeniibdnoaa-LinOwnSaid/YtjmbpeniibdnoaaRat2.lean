/- exact: Ratio. -/
import Derived.Test.YtjmbpeniibdnoaaRat1
set_option linter.unusedVariables false
set_option linter.unusedSimpArgs false
namespace Go.Proofs.Ytjmbpeniibdnoaa
open Go.RowKit

theorem ratio_law {x y : Int} (hy : y ≠ 0) : 0 < y.tdiv (Int.gcd x y) ∧ (Rat.divInt x y).num = x.tdiv (Int.gcd x y) ∧ ((Rat.divInt x y).den : Int) = y.tdiv (Int.gcd x y) ∨
    y.tdiv (Int.gcd x y) < 0 ∧ (Rat.divInt x y).num = -x.tdiv (Int.gcd x y) ∧ ((Rat.divInt x y).den : Int) = -y.tdiv (Int.gcd x y) := by
  have h1 := divInt_num (x := x) hy
  have h2 := divInt_den (x := x) hy
  have hd := (Rat.divInt x y).den_pos
  rcases Int.lt_trichotomy y 0 with h | h | h
  · rw [Int.sign_eq_neg_one_of_neg h] at h1 h2
    exact .inr ⟨by omega, by omega, by omega⟩
  · exact absurd h hy
  · rw [Int.sign_eq_one_of_pos h] at h1 h2
    exact .inl ⟨by omega, by omega, by omega⟩

set_option maxHeartbeats 8000000 in
set_option maxRecDepth 100000 in
theorem ratio_calls (v1 : Int) (A1 : Option Addr) (n1 c1 : Nat) (x : Int) (v2 : Int) (A2 : Option Addr) (n2 c2 : Nat) (y : Int) (w : World) (h1 : IntV w v1 A1 n1 c1 x) (h2 : IntV w v2 A2 n2 c2 y) (k : Nat) (s1 : Sz k x) (s2 : Sz k y) (hk : k ≤ 30000000000) (hy : y ≠ 0) :
    Calls Try.prog 61 #[.agg #[.int .i64 v1, .slice A1 n1 c1], .agg #[.int .i64 v2, .slice A2 n2 c2]] w fun e w' => RatR e w' (Rat.divInt x y) ∧ Below w.heap.size w w' := by
  have LAW := Lib.hid (ratio_law (x := x) hy)
  have hg := gcd_pos (x := x) hy
  generalize hq : Rat.divInt x y = q at *
  clear hq
  have hgs : Sz k (Int.gcd x y : Int) := s2.le (by
    show ((Int.gcd x y : Nat) : Int).natAbs ≤ y.natAbs
    rw [Int.natAbs_natCast]
    exact Nat.gcd_le_right _ (by omega))
  go_enter Try.func61, Try.ntmps61
  go_wp2_with fail
  have B3 := bl_alloc (bl_alloc (bl_alloc (Below.refl w.heap.size w) (.cells #[.int .i64 v1, .slice A1 n1 c1] 61)) (.cells #[.int .i64 v2, .slice A2 n2 c2] 61)) (.cells #[.int .i64 0, .slice none 0 0, .int .i64 0, .slice none 0 0] 63)
  have a1 : (((w.alloc (.cells #[.int .i64 v1, .slice A1 n1 c1] 61)).alloc (.cells #[.int .i64 v2, .slice A2 n2 c2] 61)).alloc (.cells #[.int .i64 0, .slice none 0 0, .int .i64 0, .slice none 0 0] 63)).heap[w.heap.size]? = some (.cells #[.int .i64 v1, .slice A1 n1 c1] 61 (0, 0)) := blk_alloc (blk_alloc (blk_at _ rfl) _) _
  have a2 : (((w.alloc (.cells #[.int .i64 v1, .slice A1 n1 c1] 61)).alloc (.cells #[.int .i64 v2, .slice A2 n2 c2] 61)).alloc (.cells #[.int .i64 0, .slice none 0 0, .int .i64 0, .slice none 0 0] 63)).heap[w.heap.size + 1]? = some (.cells #[.int .i64 v2, .slice A2 n2 c2] 61 (0, 0)) := blk_alloc (blk_at _ (by simp)) _
  have a3 : (((w.alloc (.cells #[.int .i64 v1, .slice A1 n1 c1] 61)).alloc (.cells #[.int .i64 v2, .slice A2 n2 c2] 61)).alloc (.cells #[.int .i64 0, .slice none 0 0, .int .i64 0, .slice none 0 0] 63)).heap[w.heap.size + 1 + 1]? = some (.cells #[.int .i64 0, .slice none 0 0, .int .i64 0, .slice none 0 0] 63 (0, 0)) := blk_at _ (by simp)
  replace h1 := h1.below B3
  replace h2 := h2.below B3
  generalize ((w.alloc (.cells #[.int .i64 v1, .slice A1 n1 c1] 61)).alloc (.cells #[.int .i64 v2, .slice A2 n2 c2] 61)).alloc (.cells #[.int .i64 0, .slice none 0 0, .int .i64 0, .slice none 0 0] 63) = W3 at *
  refine (gcd_calls v1 A1 n1 c1 x v2 A2 n2 c2 y _ h1 h2 k s1 s2 hk).mono ?_
  rintro e w1 ⟨vg, Ag, ng, cg, rfl, hG, hB1⟩
  generalize (Int.gcd x y : Int) = gg at *
  have l3 := blk_lt (blk_below a3 hB1)
  replace h1 := (h1.below hB1).kp ((Kp.refl _ _).alloc (.cells #[.int .i64 vg, .slice Ag ng cg] 61))
  replace h2 := (h2.below hB1).kp ((Kp.refl _ _).alloc (.cells #[.int .i64 vg, .slice Ag ng cg] 61))
  replace hG := hG.kp ((Kp.refl _ _).alloc (.cells #[.int .i64 vg, .slice Ag ng cg] 61))
  replace a1 := blk_alloc (blk_below a1 hB1) (.cells #[.int .i64 vg, .slice Ag ng cg] 61)
  replace a2 := blk_alloc (blk_below a2 hB1) (.cells #[.int .i64 vg, .slice Ag ng cg] 61)
  replace a3 := blk_alloc (blk_below a3 hB1) (.cells #[.int .i64 vg, .slice Ag ng cg] 61)
  have ag : (w1.alloc (.cells #[.int .i64 vg, .slice Ag ng cg] 61)).heap[w1.heap.size]? = some (.cells #[.int .i64 vg, .slice Ag ng cg] 61 (0, 0)) := blk_at _ rfl
  replace B3 := bl_alloc (bl_then B3 hB1) (.cells #[.int .i64 vg, .slice Ag ng cg] 61)
  clear hB1
  go_upto_region 2 with (fail)
  go_cut [16] (fun t wc => ∃ b : Bool, t = .bool b ∧ Hid (b = false → gg = 1) ∧ wc = w1.alloc (.cells #[.int .i64 vg, .slice Ag ng cg] 61))
  case first =>
    obtain ⟨p1, p2, p3, p4⟩ := bx2 ag
    rcases hG with ⟨rfl, rfl, rfl, rfl, z0, z1⟩ | ⟨hA, _⟩
    · by_cases hv : vg = 1
      · have q := fun (w : World) => run_neq_slice_nil_any (P := Try.prog) w 59 118 none 0 0 0 0 Try.underlying59
        have HV := Lib.hid hv
        have qv : (vg != 1) = false := by simp [hv]
        clear hv
        go_wp2
        go_meet
        case rel => exact ⟨_, rfl, fun _ => HV.out, rfl⟩
      · have qv : (vg != 1) = true := by simp [hv]
        clear hv
        go_wp2
        go_meet
        case rel => exact ⟨_, rfl, fun h => by simp at h, rfl⟩
    · obtain ⟨a, rfl⟩ : ∃ a, Ag = some a := by cases Ag with | none => exact absurd rfl hA | some a => exact ⟨a, rfl⟩
      have q := fun (w : World) => run_neq_slice_nil_any (P := Try.prog) w 59 118 (some a) ng cg 0 0 Try.underlying59
      clear hA
      by_cases hv : vg = 1
      · have qv : (vg != 1) = false := by simp [hv]
        clear hv
        go_wp2
        go_meet
        case rel => exact ⟨_, rfl, fun h => by simp at h, rfl⟩
      · have qv : (vg != 1) = true := by simp [hv]
        clear hv
        go_wp2
        go_meet
        case rel => exact ⟨_, rfl, fun h => by simp at h, rfl⟩
  case rest =>
    obtain ⟨b, rfl, hb, rfl⟩ := hcut
    generalize hgs' : w1.heap.size = gs at *
    generalize hW1 : w1.alloc (.cells #[.int .i64 vg, .slice Ag ng cg] 61) = W1 at *
    clear hW1 hgs'
    go_upto_if 16 with (fail)
    go_cut [] (fun wx => ∃ (va : Int) (Aa : Option Addr) (na ca : Nat) (vb : Int) (Ab : Option Addr) (nb cb : Nat), IntV wx va Aa na ca (x.tdiv gg) ∧ IntV wx vb Ab nb cb (y.tdiv gg) ∧ wx.heap[w.heap.size]? = some (.cells #[.int .i64 va, .slice Aa na ca] 61 (0, 0)) ∧ wx.heap[w.heap.size + 1]? = some (.cells #[.int .i64 vb, .slice Ab nb cb] 61 (0, 0)) ∧ wx.heap[w.heap.size + 1 + 1]? = some (.cells #[.int .i64 0, .slice none 0 0, .int .i64 0, .slice none 0 0] 63 (0, 0)) ∧ Below w.heap.size w wx)
    case first =>
      cases b
      · have e1 := hb.out rfl
        subst e1
        go_wp2
        go_meet
        case rel => exact ⟨v1, A1, n1, c1, v2, A2, n2, c2, by rw [Int.tdiv_one]; exact h1, by rw [Int.tdiv_one]; exact h2, a1, a2, a3, B3⟩
      · clear hb
        obtain ⟨p1, p2, p3, p4⟩ := bx2 a1
        obtain ⟨q1, q2, q3, q4⟩ := bx2 ag
        go_wp2_with fail
        refine (quo_calls v1 A1 n1 c1 x vg Ag ng cg gg _ h1 hG k s1 hgs hk (by omega)).mono ?_
        rintro e w2 ⟨v, A, n, c, v', A', n', c', rfl, hQ, hR, hB2⟩
        clear p1 p2 p3 p4 q1 q2 q3 q4 hR h1
        replace a1 := blk_below a1 hB2
        replace a2 := blk_below a2 hB2
        replace a3 := blk_below a3 hB2
        replace ag := blk_below ag hB2
        replace B3 := bl_then B3 hB2
        replace h2 := h2.below hB2
        replace hG := hG.below hB2
        clear hB2
        obtain ⟨p1, p2, p3, p4⟩ := bx2 a1
        obtain ⟨q1, q2, q3, q4⟩ := bx2 ag
        obtain ⟨r1, r2, r3, r4⟩ := bx2 a2
        have kk := ((Kp.refl 118 w2).set (p := ⟨w.heap.size, 0, none⟩) a1 (by decide) (.int .i64 v)).set (p := ⟨w.heap.size, 1, none⟩) (blk_set a1 0 _) (by decide) (.slice A n c)
        replace hQ := hQ.kp kk
        replace h2 := h2.kp kk
        replace hG := hG.kp kk
        replace B3 := bl_set (bl_set (p := ⟨w.heap.size, 0, none⟩) B3 (Nat.le_refl _) (.int .i64 v)) (p := ⟨w.heap.size, 1, none⟩) (Nat.le_refl _) (.slice A n c)
        replace a2 := blk_far (g := w.heap.size) (i := 1) (v := .slice A n c) (blk_far (g := w.heap.size) (i := 0) (v := .int .i64 v) a2 (by omega)) (by omega)
        replace a3 := blk_far (g := w.heap.size) (i := 1) (v := .slice A n c) (blk_far (g := w.heap.size) (i := 0) (v := .int .i64 v) a3 (by omega)) (by omega)
        replace ag := blk_far (g := w.heap.size) (i := 1) (v := .slice A n c) (blk_far (g := w.heap.size) (i := 0) (v := .int .i64 v) ag (by omega)) (by omega)
        replace a1 := blk_set2 a1 (.int .i64 v) (.slice A n c)
        clear kk
        go_wp2_with fail
        refine (quo_calls v2 A2 n2 c2 y vg Ag ng cg gg _ h2 hG k s2 hgs hk (by omega)).mono ?_
        rintro e w3 ⟨u, D, m, d, u', D', m', d', rfl, hQ2, hR2, hB3⟩
        clear p1 p2 p3 p4 q1 q2 q3 q4 r1 r2 r3 r4 hR2 h2 hG
        replace a1 := blk_below a1 hB3
        replace a2 := blk_below a2 hB3
        replace a3 := blk_below a3 hB3
        replace B3 := bl_then B3 hB3
        replace hQ := hQ.below hB3
        clear hB3 ag
        obtain ⟨p1, p2, p3, p4⟩ := bx2 a2
        have kk := ((Kp.refl 118 w3).set (p := ⟨w.heap.size + 1, 0, none⟩) a2 (by decide) (.int .i64 u)).set (p := ⟨w.heap.size + 1, 1, none⟩) (blk_set a2 0 _) (by decide) (.slice D m d)
        replace hQ := Lib.hid (hQ.kp kk)
        replace hQ2 := Lib.hid (hQ2.kp kk)
        replace B3 := Lib.hid (bl_set (bl_set (p := ⟨w.heap.size + 1, 0, none⟩) B3 (by simp) (.int .i64 u)) (p := ⟨w.heap.size + 1, 1, none⟩) (by simp) (.slice D m d))
        replace a1 := Lib.hid (blk_far (g := w.heap.size + 1) (i := 1) (v := .slice D m d) (blk_far (g := w.heap.size + 1) (i := 0) (v := .int .i64 u) a1 (by omega)) (by omega))
        replace a3 := Lib.hid (blk_far (g := w.heap.size + 1) (i := 1) (v := .slice D m d) (blk_far (g := w.heap.size + 1) (i := 0) (v := .int .i64 u) a3 (by omega)) (by omega))
        replace a2 := Lib.hid (blk_set2 a2 (.int .i64 u) (.slice D m d))
        clear kk
        go_wp2
        go_meet
        case rel => exact ⟨v, A, n, c, u, D, m, d, hQ.out, hQ2.out, a1.out, a2.out, a3.out, B3.out⟩
    case rest =>
      obtain ⟨va, Aa, na, ca, vb, Ab, nb, cb, hIa, hIb, ha, hb', hr, HB⟩ := hcut
      clear a1 a2 a3 ag B3 h1 h2 hG
      generalize x.tdiv gg = x1 at *
      generalize y.tdiv gg = y1 at *
      obtain ⟨p1, p2, p3, p4⟩ := bx2 hb'
      go_wp2_with fail
      refine (sign_calls vb Ab nb cb y1 _ hIb).mono ?_
      rintro e w2 ⟨rfl, hB1⟩
      replace hIa := hIa.below hB1
      replace hIb := hIb.below hB1
      replace ha := blk_below ha hB1
      replace hb' := blk_below hb' hB1
      replace hr := blk_below hr hB1
      replace HB := bl_then HB hB1
      clear hB1 p1 p2 p3 p4
      go_upto_if 31 with (fail)
      go_cut [] (fun wx => ∃ (va : Int) (Aa : Option Addr) (na ca : Nat) (vb : Int) (Ab : Option Addr) (nb cb : Nat), IntV wx va Aa na ca q.num ∧ IntV wx vb Ab nb cb (q.den : Int) ∧ wx.heap[w.heap.size]? = some (.cells #[.int .i64 va, .slice Aa na ca] 61 (0, 0)) ∧ wx.heap[w.heap.size + 1]? = some (.cells #[.int .i64 vb, .slice Ab nb cb] 61 (0, 0)) ∧ wx.heap[w.heap.size + 1 + 1]? = some (.cells #[.int .i64 0, .slice none 0 0, .int .i64 0, .slice none 0 0] 63 (0, 0)) ∧ Below w.heap.size w wx)
      case first =>
        rcases LAW.out with ⟨e1, e2, e3⟩ | ⟨e1, e2, e3⟩
        · have hs : decide (y1 < 0) = false := by simp; omega
          rw [hs]
          have hV1 : IntV w2 va Aa na ca q.num := by rw [e2]; exact hIa
          have hV2 : IntV w2 vb Ab nb cb (q.den : Int) := by rw [e3]; exact hIb
          clear e1 e2 e3 hs
          go_wp2
          go_meet
          case rel => exact ⟨va, Aa, na, ca, vb, Ab, nb, cb, hV1, hV2, ha, hb', hr, HB⟩
        · have hs : decide (y1 < 0) = true := by simp; omega
          rw [hs]
          have HQ1 := Lib.hid e2
          have HQ2 := Lib.hid e3
          clear e1 e2 e3 hs
          obtain ⟨p1, p2, p3, p4⟩ := bx2 ha
          obtain ⟨q1, q2, q3, q4⟩ := bx2 hb'
          go_wp2_with fail
          go_region_with (first | (go_at_call_of 68 (Value.agg #[.int .i64 va, .slice Aa na ca]); refine (neg_calls va Aa na ca x1 _ (hIa.kp (by first | exact Kp.refl _ _ | exact (Kp.refl _ _).drew))).mono ?_; rintro e w3 ⟨rfl, hBa⟩; have b1 := blk_below (by first | exact ha | exact blk_drew ha) hBa; have b2 := blk_below (by first | exact hb' | exact blk_drew hb') hBa; have b3 := blk_below (by first | exact hr | exact blk_drew hr) hBa; have HB1 := bl_then (by first | exact HB | exact bl_drew HB) hBa; have hIa3 := ((hIa.kp (by first | exact Kp.refl _ _ | exact (Kp.refl _ _).drew)).below hBa).neg; have hIb3 := ((hIb.kp (by first | exact Kp.refl _ _ | exact (Kp.refl _ _).drew)).below hBa); obtain ⟨r1, r2, r3, r4⟩ := bx2 b1; obtain ⟨s1, s2, s3, s4⟩ := bx2 b2) | (go_at_call 68; refine (neg_calls vb Ab nb cb y1 _ (by first | exact hIb3 | exact hIb3.kp (Kp.refl _ _).drew)).mono ?_; rintro e w4 ⟨rfl, hBb⟩; have d1 := blk_below (by first | exact b1 | exact blk_drew b1) hBb; have d2 := blk_below (by first | exact b2 | exact blk_drew b2) hBb; have d3 := blk_below (by first | exact b3 | exact blk_drew b3) hBb; have HB2 := bl_then (by first | exact HB1 | exact bl_drew HB1) hBb; have hIa4 := (by first | exact hIa3.below hBb | exact (hIa3.kp (Kp.refl _ _).drew).below hBb : IntV w4 (-va) Aa na ca (-x1)); have hIb4 := (by first | exact hIb3.neg.below hBb | exact (hIb3.neg.kp (Kp.refl _ _).drew).below hBb : IntV w4 (-vb) Ab nb cb (-y1)); obtain ⟨t1, t2, t3, t4⟩ := bx2 d1; obtain ⟨u1, u2, u3, u4⟩ := bx2 d2))
          all_goals
            rw [← HQ1.out] at hIa4
            rw [← HQ2.out] at hIb4
            have hE := Lib.hid (putInt2 hIa4 hIb4 d1 d2 HB2 (by omega) (by omega) (by omega))
            clear r1 r2 r3 r4 s1 s2 s3 s4 t1 t2 t3 t4 u1 u2 u3 u4
            go_wp2
            go_meet
            case rel => exact ⟨-va, Aa, na, ca, -vb, Ab, nb, cb, hE.out.1.kp (by first | exact (Kp.refl _ _).drew | exact Kp.refl _ _), hE.out.2.1.kp (by first | exact (Kp.refl _ _).drew | exact Kp.refl _ _), hE.out.2.2.2.1, hE.out.2.2.2.2, (by first | exact blk_drew (blk_far (blk_far (blk_far (blk_far d3 (by omega)) (by omega)) (by omega)) (by omega)) | exact blk_far (blk_far (blk_far (blk_far d3 (by omega)) (by omega)) (by omega)) (by omega)), by first | exact bl_drew hE.out.2.2.1 | exact hE.out.2.2.1⟩
      case rest =>
        clear hIa hIb ha hb' hr HB
        obtain ⟨va, Aa, na, ca, vb, Ab, nb, cb, hIa, hIb, ha, hb', hr, HB⟩ := hcut
        have hV : RatV wc va Aa na ca vb Ab nb cb q := ⟨hIa, _, hIb, .inl rfl⟩
        clear hIa hIb
        obtain ⟨p1, p2, p3, p4⟩ := bx2 ha
        obtain ⟨q1, q2, q3, q4⟩ := bx2 hb'
        obtain ⟨⟨r1, r2, r3, r4⟩, r5, r6, r7, r8⟩ := bx4 hr
        have hE := Lib.hid (putRat hV hr HB (by omega))
        go_wp2
        refine bodyPost_ret (results_cell_row rfl _ _ (w.heap.size + 1 + 1) 63 #[.int .i64 va, .slice Aa na ca, .int .i64 vb, .slice Ab nb cb] (0, 0) _ rfl hE.out.2.2 Try.underlying63 rfl (by kernel_rfl)) rfl ?_
        exact ⟨⟨_, _, _, _, _, _, _, _, rfl, hE.out.1⟩, hE.out.2.1⟩
end Go.Proofs.Ytjmbpeniibdnoaa
