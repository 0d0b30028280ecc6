/- exact: Gcd. -/
import Derived.Test.YtjmbpeniibdnoaaQuo
import Derived.Deep.RegionWith
set_option linter.unusedVariables false
set_option linter.unusedSimpArgs false
namespace Go.Proofs.Ytjmbpeniibdnoaa
open Go.RowKit

theorem blk_far {W : World} {g i : Nat} {v : Value} {k : Nat} {o : Obj} (h : W.heap[k]? = some o) (hk : k ≠ g) : (W.setCell ⟨g, i, none⟩ v).heap[k]? = some o := by
  rw [heap_setCell_other _ _ _ _ hk]; exact h

set_option maxHeartbeats 8000000 in
set_option maxRecDepth 100000 in
theorem gcd_calls (v1 : Int) (A1 : Option Addr) (n1 c1 : Nat) (x : Int) (v2 : Int) (A2 : Option Addr) (n2 c2 : Nat) (y : Int) (w : World) (h1 : IntV w v1 A1 n1 c1 x) (h2 : IntV w v2 A2 n2 c2 y) (k : Nat) (s1 : Sz k x) (s2 : Sz k y) (hk : k ≤ 30000000000) :
    Calls Try.prog 59 #[.agg #[.int .i64 v1, .slice A1 n1 c1], .agg #[.int .i64 v2, .slice A2 n2 c2]] w fun e w' => ∃ (v : Int) (A : Option Addr) (n c : Nat), e = .returned (.agg #[.int .i64 v, .slice A n c]) ∧ IntV w' v A n c (Int.gcd x y : Int) ∧ Below w.heap.size w w' := by
  generalize hgg : ((Int.gcd x y : Nat) : Int) = gg at *
  have HGG := Lib.hid hgg
  clear hgg
  go_enter Try.func59, Try.ntmps59
  go_wp2_with fail
  go_cut [] (fun wx => ∃ (va vb : Int), IntV wx va A1 n1 c1 (x.natAbs : Int) ∧ IntV wx vb A2 n2 c2 (y.natAbs : Int) ∧ wx.heap[w.heap.size]? = some (.cells #[.int .i64 va, .slice A1 n1 c1] 61 (0, 0)) ∧ wx.heap[w.heap.size + 1]? = some (.cells #[.int .i64 vb, .slice A2 n2 c2] 61 (0, 0)) ∧ wx.heap[w.heap.size + 1 + 1]? = some (.cells #[.int .i64 0, .slice none 0 0] 61 (0, 0)) ∧ Below w.heap.size w wx)
  case first =>
    have B3 := bl_alloc (bl_alloc (bl_alloc (Below.refl w.heap.size w) (.cells #[.int .i64 v1, .slice A1 n1 c1] 61)) (.cells #[.int .i64 v2, .slice A2 n2 c2] 61)) (.cells #[.int .i64 0, .slice none 0 0] 61)
    have a1 : (((w.alloc (.cells #[.int .i64 v1, .slice A1 n1 c1] 61)).alloc (.cells #[.int .i64 v2, .slice A2 n2 c2] 61)).alloc (.cells #[.int .i64 0, .slice none 0 0] 61)).heap[w.heap.size]? = some (.cells #[.int .i64 v1, .slice A1 n1 c1] 61 (0, 0)) := blk_alloc (blk_alloc (blk_at _ rfl) _) _
    have a2 : (((w.alloc (.cells #[.int .i64 v1, .slice A1 n1 c1] 61)).alloc (.cells #[.int .i64 v2, .slice A2 n2 c2] 61)).alloc (.cells #[.int .i64 0, .slice none 0 0] 61)).heap[w.heap.size + 1]? = some (.cells #[.int .i64 v2, .slice A2 n2 c2] 61 (0, 0)) := blk_alloc (blk_at _ (by simp)) _
    have a3 : (((w.alloc (.cells #[.int .i64 v1, .slice A1 n1 c1] 61)).alloc (.cells #[.int .i64 v2, .slice A2 n2 c2] 61)).alloc (.cells #[.int .i64 0, .slice none 0 0] 61)).heap[w.heap.size + 1 + 1]? = some (.cells #[.int .i64 0, .slice none 0 0] 61 (0, 0)) := blk_at _ (by simp)
    replace h1 := h1.below B3
    replace h2 := h2.below B3
    generalize ((w.alloc (.cells #[.int .i64 v1, .slice A1 n1 c1] 61)).alloc (.cells #[.int .i64 v2, .slice A2 n2 c2] 61)).alloc (.cells #[.int .i64 0, .slice none 0 0] 61) = W3 at *
    obtain ⟨p1, p2, p3, p4⟩ := bx2 a1
    obtain ⟨q1, q2, q3, q4⟩ := bx2 a2
    go_region_with (first | (go_at_call 75; refine (abs_calls v1 A1 n1 c1 x _ (h1.kp (by first | exact Kp.refl _ _ | exact (Kp.refl _ _).drew))).mono ?_; rintro e w1 ⟨va, rfl, hIa, hBa⟩; have b1 := blk_below (by first | exact a1 | exact blk_drew a1) hBa; have b2 := blk_below (by first | exact a2 | exact blk_drew a2) hBa; have b3 := blk_below (by first | exact a3 | exact blk_drew a3) hBa; have HB1 := bl_then (by first | exact B3 | exact bl_drew B3) hBa; obtain ⟨r1, r2, r3, r4⟩ := bx2 b1; obtain ⟨s1, s2, s3, s4⟩ := bx2 b2) | (go_at_call 75; refine (abs_calls v2 A2 n2 c2 y _ (by first | exact h2.below hBa | exact (h2.kp (Kp.refl _ _).drew).below hBa | exact ((h2.kp (Kp.refl _ _).drew).below hBa).kp (Kp.refl _ _).drew | exact ((h2.below hBa).kp (Kp.refl _ _).drew))).mono ?_; rintro e w2 ⟨vb, rfl, hIb, hBb⟩; have d1 := blk_below (by first | exact b1 | exact blk_drew b1) hBb; have d2 := blk_below (by first | exact b2 | exact blk_drew b2) hBb; have d3 := blk_below (by first | exact b3 | exact blk_drew b3) hBb; have HB2 := bl_then (by first | exact HB1 | exact bl_drew HB1) hBb; have hIa2 := (by first | exact hIa.below hBb | exact (hIa.kp (Kp.refl _ _).drew).below hBb : IntV w2 va A1 n1 c1 (x.natAbs : Int)); obtain ⟨t1, t2, t3, t4⟩ := bx2 d1; obtain ⟨u1, u2, u3, u4⟩ := bx2 d2))
    all_goals
      have hE := Lib.hid (putInt2 hIa2 hIb d1 d2 HB2 (by omega) (by omega) (by omega))
      clear r1 r2 r3 r4 s1 s2 s3 s4 t1 t2 t3 t4 u1 u2 u3 u4
      go_wp2
      go_meet
      case rel => exact ⟨va, vb, hE.out.1.kp (by first | exact (Kp.refl _ _).drew | exact Kp.refl _ _), hE.out.2.1.kp (by first | exact (Kp.refl _ _).drew | exact Kp.refl _ _), hE.out.2.2.2.1, hE.out.2.2.2.2, (by first | exact blk_drew (blk_far (blk_far (blk_far (blk_far d3 (by omega)) (by omega)) (by omega)) (by omega)) | exact blk_far (blk_far (blk_far (blk_far d3 (by omega)) (by omega)) (by omega)) (by omega)), by first | exact bl_drew hE.out.2.2.1 | exact hE.out.2.2.1⟩
  case rest =>
    obtain ⟨va, vb, hIa, hIb, ha, hb, hr, HB⟩ := hcut
    have sx : Sz k (x.natAbs : Int) := s1.le (by omega)
    have sy : Sz k (y.natAbs : Int) := s2.le (by omega)
    have hg : ((Int.gcd (x.natAbs : Int) (y.natAbs : Int) : Nat) : Int) = gg := HGG.out
    have hga : (0 : Int) ≤ (x.natAbs : Int) := by omega
    have hgb : (0 : Int) ≤ (y.natAbs : Int) := by omega
    generalize (x.natAbs : Int) = xa at *
    generalize (y.natAbs : Int) = ya at *
    clear s1 s2 h1 h2
    go_wp2_with fail
    go_loopg [] ya.toNat (fun gk wr => ∃ (va : Int) (Aa : Option Addr) (na ca : Nat) (vb : Int) (Ab : Option Addr) (nb cb : Nat) (x1 y1 : Int), y1 = (gk : Int) ∧ 0 ≤ x1 ∧ IntV wr va Aa na ca x1 ∧ IntV wr vb Ab nb cb y1 ∧ ((Int.gcd x1 y1 : Nat) : Int) = gg ∧ Sz k x1 ∧ Sz k y1 ∧ wr.heap[w.heap.size]? = some (.cells #[.int .i64 va, .slice Aa na ca] 61 (0, 0)) ∧ wr.heap[w.heap.size + 1]? = some (.cells #[.int .i64 vb, .slice Ab nb cb] 61 (0, 0)) ∧ wr.heap[w.heap.size + 1 + 1]? = some (.cells #[.int .i64 0, .slice none 0 0] 61 (0, 0)) ∧ Below w.heap.size w wr)
    case atStart => exact ⟨va, A1, n1, c1, vb, A2, n2, c2, xa, ya, by omega, hga, hIa, hIb, hg, sx, sy, ha, hb, hr, HB⟩
    case round =>
      clear hIa hIb ha hb hr HB hg sx sy hga hgb
      obtain ⟨va, Aa, na, ca, vb, Ab, nb, cb, x1, y1, hy1, hx1, hIa, hIb, hg, sx, sy, ha, hb, hr, HB⟩ := hrel
      obtain ⟨p1, p2, p3, p4⟩ := bx2 hb
      go_wp2_with fail
      refine (sign_calls vb Ab nb cb y1 _ hIb).mono ?_
      rintro e w1 ⟨rfl, hB1⟩
      replace hIa := hIa.below hB1
      replace hIb := hIb.below hB1
      replace ha := blk_below ha hB1
      replace hb := blk_below hb hB1
      replace hr := blk_below hr hB1
      replace HB := bl_then HB hB1
      clear hB1 p1 p2 p3 p4
      rcases Nat.eq_zero_or_pos gk with h0 | h0
      · subst h0
        have e0 : y1.sign = 0 := by rw [hy1]; rfl
        have hgx : x1 = gg := by rw [← hg, hy1]; simp [Int.gcd]; omega
        have HGX := Lib.hid hgx
        rw [e0]
        clear e0 hg hy1 hgx
        obtain ⟨p1, p2, p3, p4⟩ := bx2 ha
        obtain ⟨q1, q2, q3, q4⟩ := bx2 hr
        have hE := Lib.hid (putInt hIa hr HB (by omega))
        go_wp2
        refine bodyPost_ret (results_cell_row rfl _ _ (w.heap.size + 1 + 1) 61 #[.int .i64 va, .slice Aa na ca] (0, 0) _ rfl hE.out.2.2 Try.underlying61 rfl (by kernel_rfl)) rfl ?_
        exact ⟨_, _, _, _, rfl, by rw [← HGX.out]; exact hE.out.1, hE.out.2.1⟩
      · have e0 : y1.sign = 1 := by rw [hy1, Int.sign_eq_one_of_pos (by omega)]
        rw [e0]
        clear e0
        obtain ⟨p1, p2, p3, p4⟩ := bx2 ha
        obtain ⟨q1, q2, q3, q4⟩ := bx2 hb
        go_wp2_with fail
        refine (quo_calls va Aa na ca x1 vb Ab nb cb y1 _ hIa hIb k sx sy hk (by omega)).mono ?_
        rintro e w2 ⟨v, A, n, c, v', A', n', c', rfl, hQ, hR, hB2⟩
        replace ha := blk_below ha hB2
        replace hb := blk_below hb hB2
        replace hr := blk_below hr hB2
        replace hIb := hIb.below hB2
        replace HB := bl_then HB hB2
        clear hB2 p1 p2 p3 p4 q1 q2 q3 q4 hIa
        have hmod : x1.tmod y1 = x1 % y1 := Int.tmod_eq_emod_of_nonneg hx1
        have hm0 : 0 ≤ x1 % y1 := Int.emod_nonneg _ (by omega)
        have hm1 : x1 % y1 < y1 := Int.emod_lt_of_pos _ (by omega)
        rw [hmod] at hR
        have hgr : ((Int.gcd y1 (x1 % y1) : Nat) : Int) = gg := by
          rw [← hg, Int.gcd_comm]
          congr 1
          unfold Int.gcd
          rw [Int.natAbs_emod_of_nonneg hx1]
          exact (Nat.gcd_rec _ _).symm.trans (Nat.gcd_comm _ _)
        have sr : Sz k (x1 % y1) := sy.le (by omega)
        have hbr : ((w2.alloc (.cells #[.int .i64 v, .slice A n c] 61)).alloc (.cells #[.int .i64 v', .slice A' n' c'] 61)).heap[w2.heap.size + 1]? = some (.cells #[.int .i64 v', .slice A' n' c'] 61 (0, 0)) := blk_at _ (by simp)
        have hlt2 := HB.size
        replace ha := blk_alloc (blk_alloc ha (.cells #[.int .i64 v, .slice A n c] 61)) (.cells #[.int .i64 v', .slice A' n' c'] 61)
        replace hb := blk_alloc (blk_alloc hb (.cells #[.int .i64 v, .slice A n c] 61)) (.cells #[.int .i64 v', .slice A' n' c'] 61)
        replace hr := blk_alloc (blk_alloc hr (.cells #[.int .i64 v, .slice A n c] 61)) (.cells #[.int .i64 v', .slice A' n' c'] 61)
        replace HB := bl_alloc (bl_alloc HB (.cells #[.int .i64 v, .slice A n c] 61)) (.cells #[.int .i64 v', .slice A' n' c'] 61)
        replace hIb := hIb.kp (((Kp.refl _ _).alloc (.cells #[.int .i64 v, .slice A n c] 61)).alloc (.cells #[.int .i64 v', .slice A' n' c'] 61))
        replace hR := hR.kp (((Kp.refl _ _).alloc (.cells #[.int .i64 v, .slice A n c] 61)).alloc (.cells #[.int .i64 v', .slice A' n' c'] 61))
        obtain ⟨p1, p2, p3, p4⟩ := bx2 ha
        obtain ⟨q1, q2, q3, q4⟩ := bx2 hb
        obtain ⟨t1, t2, t3, t4⟩ := bx2 hbr
        have hE := Lib.hid (putInt2 hIb hR ha hb HB (by omega) (by omega) (by omega))
        generalize x1 % y1 = r1 at *
        go_wp2_with fail
        go_region
        all_goals
          clear p1 p2 p3 p4 q1 q2 q3 q4 t1 t2 t3 t4
          go_wp2
          go_roundg r1.toNat
          case measure => omega
          case rel => exact ⟨vb, Ab, nb, cb, v', A', n', c', y1, r1, by omega, by omega, hE.out.1.kp (by first | exact (Kp.refl _ _).drew | exact Kp.refl _ _), hE.out.2.1.kp (by first | exact (Kp.refl _ _).drew | exact Kp.refl _ _), hgr, sy, sr, hE.out.2.2.2.1, hE.out.2.2.2.2, (by first | exact blk_drew (blk_far (blk_far (blk_far (blk_far hr (by omega)) (by omega)) (by omega)) (by omega)) | exact blk_far (blk_far (blk_far (blk_far hr (by omega)) (by omega)) (by omega)) (by omega)), by first | exact bl_drew hE.out.2.2.1 | exact hE.out.2.2.1⟩
end Go.Proofs.Ytjmbpeniibdnoaa
