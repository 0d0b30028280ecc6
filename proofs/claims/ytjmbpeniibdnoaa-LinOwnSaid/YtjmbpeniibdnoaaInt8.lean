/- exact: Mul. -/
import Derived.Test.YtjmbpeniibdnoaaInt7
import Derived.Test.YtjmbpeniibdnoaaMulMath
set_option linter.unusedVariables false
set_option linter.unusedSimpArgs false
namespace Go.Proofs.Ytjmbpeniibdnoaa
open Go.RowKit

/-- What the small way of Mul hands back. -/
theorem small_prod {v1 v2 a b : Int} (ha : a = v1.natAbs) (hb : b = v2.natAbs) : v1.sign * v2.sign * (a * b) = v1 * v2 ∧ 0 ≤ a * b ∧ -(a * b) ≤ v1 * v2 ∧ v1 * v2 ≤ a * b ∧ (-1 ≤ v1.sign * v2.sign ∧ v1.sign * v2.sign ≤ 1) := by
  have h1 := Int.sign_mul_natAbs v1
  have h2 := Int.sign_mul_natAbs v2
  have h3 : v1.sign = 1 ∨ v1.sign = -1 ∨ v1.sign = 0 := by rcases Int.lt_trichotomy v1 0 with h | h | h <;> simp [Int.sign_eq_neg_one_of_neg, Int.sign_eq_one_of_pos, h]
  have h4 : v2.sign = 1 ∨ v2.sign = -1 ∨ v2.sign = 0 := by rcases Int.lt_trichotomy v2 0 with h | h | h <;> simp [Int.sign_eq_neg_one_of_neg, Int.sign_eq_one_of_pos, h]
  have h5 : 0 ≤ a * b := Int.mul_nonneg (by omega) (by omega)
  have e1 : v1 = v1.sign * a := by rw [ha]; exact h1.symm
  have e2 : v2 = v2.sign * b := by rw [hb]; exact h2.symm
  have e3 : v1 * v2 = v1.sign * v2.sign * (a * b) := by
    generalize v1.sign = s at *
    generalize v2.sign = t at *
    rw [e1, e2]; grind
  rw [e3]
  rcases h3 with h3 | h3 | h3 <;> rcases h4 with h4 | h4 | h4 <;> rw [h3, h4] <;> simp <;> omega

theorem sign_prod {s t X Y x y V : Int} (h1 : s = 1 ∧ 0 < X ∨ s = -1 ∧ 0 < X ∨ s = 0 ∧ X = 0) (h2 : t = 1 ∧ 0 < Y ∨ t = -1 ∧ 0 < Y ∨ t = 0 ∧ Y = 0) (e1 : x = s * X) (e2 : y = t * Y) (hV : V = X * Y) :
    (s * t = 1 ∨ s * t = -1 ∨ s * t = 0 ∧ V = 0) ∧ (-1 ≤ s * t ∧ s * t ≤ 1) ∧ s * t * V = x * y := by
  subst e1 e2 hV
  refine ⟨?_, ?_, by grind⟩
  · rcases h1 with ⟨rfl, _⟩ | ⟨rfl, _⟩ | ⟨rfl, rfl⟩ <;> rcases h2 with ⟨rfl, _⟩ | ⟨rfl, _⟩ | ⟨rfl, rfl⟩ <;> simp
  · rcases h1 with ⟨rfl, _⟩ | ⟨rfl, _⟩ | ⟨rfl, rfl⟩ <;> rcases h2 with ⟨rfl, _⟩ | ⟨rfl, _⟩ | ⟨rfl, rfl⟩ <;> simp

theorem mul64_abs (v1 v2 a b p : Int) (w : World) (hp : p = v1.natAbs * v2.natAbs) (ha : a = v1.natAbs) (hb : b = v2.natAbs) (h1 : -4611686018427387904 < v1 ∧ v1 < 4611686018427387904) (h2 : -4611686018427387904 < v2 ∧ v2 < 4611686018427387904) :
    Calls Try.prog 81 #[.int .u64 a, .int .u64 b] w fun e w' => e = .returned (.tuple #[.int .u64 (p / 18446744073709551616), .int .u64 (p % 18446744073709551616)]) ∧ w' = w := by
  subst hp ha hb
  exact mul64_calls _ _ w (by omega) (by omega) (by omega) (by omega)

set_option maxHeartbeats 1600000 in
set_option maxRecDepth 100000 in
theorem mul_calls (v1 : Int) (A1 : Option Addr) (n1 c1 : Nat) (x : Int) (v2 : Int) (A2 : Option Addr) (n2 c2 : Nat) (y : Int) (w : World) (h1 : IntV w v1 A1 n1 c1 x) (h2 : IntV w v2 A2 n2 c2 y) (k : Nat) (s1 : Sz k x) (s2 : Sz k y) (hk : k ≤ 10000000000) :
    Calls Try.prog 64 #[.agg #[.int .i64 v1, .slice A1 n1 c1], .agg #[.int .i64 v2, .slice A2 n2 c2]] w fun e w' => ∃ (v : Int) (A : Option Addr) (n c : Nat), e = .returned (.agg #[.int .i64 v, .slice A n c]) ∧ IntV w' v A n c (x * y) ∧ Below w.heap.size w w' := by
  have Z := fun (w : World) (A : Option Addr) (n c : Nat) => Lib.run_eql_slice_nil (P := Try.prog) w 59 118 A n c 0 0 Try.underlying59
  go_enter Try.func64, Try.ntmps64
  go_upto_region 1 with (fail)
  go_cut [24] (fun t wc => ∃ b : Bool, t = .bool b ∧ Hid (b = true → A1 = none ∧ A2 = none) ∧ wc = ((w.alloc (.cells #[.int .i64 v1, .slice A1 n1 c1] 61)).alloc (.cells #[.int .i64 v2, .slice A2 n2 c2] 61)).alloc (.cells #[.int .i64 0, .slice none 0 0] 61))
  case first =>
    cases hA : A1.isNone
    · go_wp2
      go_meet
      case rel => exact ⟨_, rfl, fun h => by simp at h, rfl⟩
    · go_wp2
      go_meet
      case rel => exact ⟨_, rfl, fun h => ⟨by simpa using hA, by simpa using h⟩, rfl⟩
  case rest =>
    obtain ⟨b, rfl, hb, rfl⟩ := hcut
    go_upto_if 24 with (fail)
    go_cut [] (fun wc => wc.heap[w.heap.size]? = some (.cells #[.int .i64 v1, .slice A1 n1 c1] 61 (0, 0)) ∧ wc.heap[w.heap.size + 1]? = some (.cells #[.int .i64 v2, .slice A2 n2 c2] 61 (0, 0)) ∧ wc.heap[w.heap.size + 1 + 1]? = some (.cells #[.int .i64 0, .slice none 0 0] 61 (0, 0)) ∧ Below w.heap.size w wc)
    case first =>
      cases b
      · go_wp2
        go_meet
        case rel => exact ⟨blk_alloc (blk_alloc (blk_at _ rfl) _) _, blk_alloc (blk_at _ (by simp)) _, blk_at _ (by simp), bl_alloc (bl_alloc (bl_alloc (Below.refl _ _) _) _) _⟩
      · obtain ⟨rfl, rfl⟩ := hb.out rfl
        have e1 : n1 = 0 ∧ c1 = 0 ∧ v1 = x := by rcases h1 with ⟨_, a, b, c, _⟩ | ⟨a, _⟩; exact ⟨a, b, c⟩; exact absurd rfl a
        have e2 : n2 = 0 ∧ c2 = 0 ∧ v2 = y := by rcases h2 with ⟨_, a, b, c, _⟩ | ⟨a, _⟩; exact ⟨a, b, c⟩; exact absurd rfl a
        obtain ⟨rfl, rfl, rfl⟩ := e1
        obtain ⟨rfl, rfl, rfl⟩ := e2
        have bd1 := h1.bound
        have bd2 := h2.bound
        have H1 := Lib.hid h1
        have H2 := Lib.hid h2
        clear hb
        obtain ⟨z1, z2, z3, z4, z5⟩ := small_prod (v1 := v1) (v2 := v2) rfl rfl
        generalize hp : (v1.natAbs : Int) * v2.natAbs = p at *
        have HP := Lib.hid hp.symm
        have Z1 := Lib.hid z1
        clear hp z1
        go_wp2_with fail
        all_goals
          refine (mul64_abs v1 v2 _ _ p _ HP.out (by omega) (by omega) bd1 bd2).mono ?_
          rintro e w' ⟨rfl, rfl⟩
          by_cases hlim : p < 4611686018427387904
          · have q1 : p / 18446744073709551616 = 0 := by omega
            have q2 : p % 18446744073709551616 = p := by omega
            rw [q1, q2]
            clear q1 q2
            have b1 : -4611686018427387904 < v1 * v2 ∧ v1 * v2 < 4611686018427387904 := by omega
            have Z1' := Z1.out
            generalize es : v1.sign * v2.sign = sg at *
            generalize em : v1 * v2 = m at *
            have EM := Lib.hid em
            clear em
            have W1 : IntKind.i64.wrap sg = sg := by rw [IntKind.wrap_i64]; omega
            have W2 : IntKind.i64.wrap p = p := by rw [IntKind.wrap_i64]; omega
            have W3 : IntKind.i64.wrap m = m := by rw [IntKind.wrap_i64]; omega
            go_wp2_with fail
            go_region_held3 (fun W => W.cell? ⟨w.heap.size, 0, none⟩ = some (.int .i64 v1) ∧ W.cell? ⟨w.heap.size, 1, none⟩ = some (.slice none 0 0) ∧ W.cell? ⟨w.heap.size + 1, 0, none⟩ = some (.int .i64 v2) ∧ W.cell? ⟨w.heap.size + 1, 1, none⟩ = some (.slice none 0 0)) (first | exact keep4 hB2 (by assumption) | exact keep4 hB1 (by assumption) | exact keep4_set1 (keep4_set1 (by assumption) (by simp; omega) (by simp; omega) (by simp) (by simp)) (by simp; omega) (by simp; omega) (by simp) (by simp) | go_keep) (first | (go_at_call_of 65 (Value.agg #[.int .i64 v1, .slice none 0 0]); refine (sign_calls v1 none 0 0 v1 _ (H1.out.kp (by exact ((((Kp.refl _ _).alloc _).alloc _).alloc _).drew))).mono ?_; rintro e w1 ⟨rfl, hB1⟩; have hbR := blk_below (blk_drew (blk_at (g := w.heap.size + 1 + 1) _ (by simp))) hB1; have HB := bl_then (bl_drew (bl_alloc (bl_alloc (bl_alloc (Below.refl w.heap.size w) _) _) _)) hB1) | (go_at_call 65; refine (sign_calls v2 none 0 0 v2 _ (H2.out.below HB)).mono ?_; rintro e w2 ⟨rfl, hB2⟩; have hbR2 := blk_below hbR hB2; have HB2 := bl_then HB hB2; obtain ⟨q1, q2, q3, q4⟩ := bx2 hbR2))
            go_wp2
            refine bodyPost_ret (results_cell_row rfl _ _ (w.heap.size + 1 + 1) 61 #[.int .i64 m, .slice none 0 0] (0, 0) _ rfl (blk_set2 hbR2 _ _) Try.underlying61 rfl (by kernel_rfl)) rfl ?_
            exact ⟨_, _, _, _, rfl, by rw [EM.out]; exact IntV.small _ b1.1 b1.2, bl_set (bl_set HB2 (by simp; omega) _) (by simp; omega) _⟩
          · by_cases h64 : p / 18446744073709551616 = 0
            · have q1 : p % 18446744073709551616 = p := by omega
              have q2 : ¬ p % 18446744073709551616 < 4611686018427387904 := by omega
              rw [h64, q1]
              rw [q1] at q2
              clear q1
              go_wp2
              go_meet
              case rel => exact ⟨blk_alloc (blk_alloc (blk_at _ rfl) _) _, blk_alloc (blk_at _ (by simp)) _, blk_at _ (by simp), bl_alloc (bl_alloc (bl_alloc (Below.refl _ _) _) _) _⟩
            · have q1 : (p / 18446744073709551616 == 0) = false := by simpa using h64
              go_wp2
              go_meet
              case rel => exact ⟨blk_alloc (blk_alloc (blk_at _ rfl) _) _, blk_alloc (blk_at _ (by simp)) _, blk_at _ (by simp), bl_alloc (bl_alloc (bl_alloc (Below.refl _ _) _) _) _⟩
    case rest =>
      obtain ⟨hbA, hbB, hbR, HB⟩ := hcut
      replace h1 := h1.below HB
      replace h2 := h2.below HB
      have I := info_u32
      have HI := Lib.hid I
      clear I hb
      obtain ⟨p1, p2, p3, p4⟩ := bx2 hbA
      go_wp2_with fail
      refine (digits_calls _ _ _ _ x _ h1).mono ?_
      rintro e w1 ⟨s, X1, m1, d1, xs, rfl, hD1, hB1⟩
      clear p1 p2 p3 p4 h1
      replace h2 := h2.below hB1
      replace hbB := blk_below hbB hB1
      replace hbR := blk_below hbR hB1
      replace HB := bl_then HB hB1
      clear hB1 hbA
      obtain ⟨p1, p2, p3, p4⟩ := bx2 hbB
      go_wp2_with fail
      clear p1 p2 p3 p4
      refine (digits_calls _ _ _ _ y _ h2).mono ?_
      rintro e w2 ⟨t, X2, m2, d2, ys, rfl, hD2, hB2⟩
      replace hD1 := hD1.below hB2
      replace hbR := blk_below hbR hB2
      replace HB := bl_then HB hB2
      clear hB2 hbB h2
      have l1 := hD1.len s1 (by omega)
      have l2 := hD2.len s2 (by omega)
      have HS1 := Lib.hid hD1.sign
      have HS2 := Lib.hid hD2.sign
      have HE1 := Lib.hid hD1.eq
      have HE2 := Lib.hid hD2.eq
      have hk1 := Lib.hid hD1.dig
      have hk2 := Lib.hid hD2.dig
      have hr1 := hD1.rd
      have hr2 := hD2.rd
      clear hD1 hD2
      have L1 := Lib.hid hr1.1
      have L2 := Lib.hid hr2.1
      have B0 := Below.refl w2.heap.size w2
      go_wp2_with (first | (at_make; refine make_num w2.heap.size rfl _ _ 59 118 .u32 4 rfl Try.underlying59 HI.out _ _ _ _ (m1 + m2) rfl rfl (by simp) (by simp) (by omega) (by omega) B0 (Nat.le_refl _) ?_; intro w3 hown HB3) | go_in)
      clear B0
      have hst := MulO.start (B := 4294967296) (by omega) xs ys
      rw [L1.out, L2.out] at hst
      go_loopw [76] (fun i wr => ∃ (j : Nat) (out : List Int), j ≤ m1 ∧ i = .int .i64 j ∧ MulO 4294967296 xs ys j out ∧ wr.ownsRow w2.heap.size 118 1 (.slice (some ⟨w2.heap.size, 0, none⟩) (m1 + m2) (m1 + m2)) (m1 + m2) (ints .u32 out) ∧ Below w2.heap.size w2 wr) (fun i _ => m1 - (intOf i).toNat)
      case atStart => exact ⟨0, _, Nat.zero_le _, rfl, hst, hown, HB3⟩
      case round =>
        clear hst hown HB3
        obtain ⟨j, out, hj, rfl, hO, ho, hB⟩ := hrel
        by_cases hlt : j < m1
        · obtain ⟨ga, oa, rfl, la, ca⟩ := hr1.at_ (by omega)
          have ca1 : wr.cell? ⟨ga, oa + j, none⟩ = some (.int .u32 (xs.getD j 0)) := (hB.cell (p := ⟨ga, oa + j, none⟩) la).trans (ca j hlt)
          clear ca
          have da := hk1.out.at j (by omega)
          have hI0 := hO.enter (by omega)
          clear hO
          generalize ep : xs.getD j 0 = pd at *
          have EP := Lib.hid ep
          clear ep
          obtain ⟨wo, rfl⟩ : ∃ wo : World, wo = wr := ⟨_, rfl⟩
          go_wp2_with fail
          go_loopw [14, 83] (fun c kk wr => ∃ (q : Nat) (out : List Int) (cy : Int), q ≤ m2 ∧ kk = .int .i64 q ∧ c = .int .u64 cy ∧ MulI 4294967296 xs ys j q out cy ∧ wr.ownsRow w2.heap.size 118 1 (.slice (some ⟨w2.heap.size, 0, none⟩) (m1 + m2) (m1 + m2)) (m1 + m2) (ints .u32 out) ∧ Below w2.heap.size w2 wr) (fun _ kk _ => m2 - (intOf kk).toNat)
          case atStart => exact ⟨0, out, 0, Nat.zero_le _, rfl, rfl, hI0, ho, hB⟩
          case round =>
            clear hI0 ho hB ca1
            obtain ⟨q, out, cy, hq, rfl, rfl, hI, ho, hB⟩ := hrel
            have c0 := hI.c0
            have c1 := hI.c1
            by_cases hlt2 : q < m2
            · obtain ⟨gb, ob, rfl, lb, cb⟩ := hr2.at_ (by omega)
              have cb1 : wr.cell? ⟨gb, ob + q, none⟩ = some (.int .u32 (ys.getD q 0)) := (hB.cell (p := ⟨gb, ob + q, none⟩) lb).trans (cb q hlt2)
              clear cb
              have db := hk2.out.at q (by omega)
              have dd := hI.dig.at (j + q) (by omega)
              obtain ⟨o1, o2⟩ := own_at ho (j + q) (by omega)
              have hS := hI.step (by omega) hk1.out hk2.out (by rw [L1.out]; exact hlt) (by rw [L2.out]; exact hlt2)
              rw [EP.out] at hS
              generalize ys.getD q 0 = qd at *
              generalize out.getD (j + q) 0 = od at *
              have pb := mul_bounds (a := pd) (b := qd) (by omega) (by omega) (by omega) (by omega)
              generalize epr : pd * qd = pr at *
              obtain ⟨so, sb⟩ := own_set ho hB (Nat.le_refl _) (j + q) ((cy + (pr + od)) % 4294967296)
              go_wp2_with fail
              go_roundw
              case rel => exact ⟨q + 1, _, _, by omega, by go_num, rfl, hS, so, sb⟩
              case measure => simp [intOf]; omega
            · have hq2 : q = m2 := by omega
              subst hq2
              rw [← L2.out] at hI
              have hL := hI.leave (by omega) (by rw [L1.out]; exact hlt)
              rw [L2.out] at hL
              clear hI
              obtain ⟨o1, o2⟩ := own_at ho (j + q) (by omega)
              obtain ⟨so, sb⟩ := own_set ho hB (Nat.le_refl _) (j + q) cy
              go_wp2_with fail
              go_roundw
              case rel => exact ⟨j + 1, _, by omega, by go_num, hL, so, sb⟩
              case measure => simp [intOf]; omega
        · have hj2 : j = m1 := by omega
          subst hj2
          have hX := hO
          rw [← L1.out] at hX
          have hP := Lib.hid hX.stop
          clear hX
          have hsg := sign_prod HS1.out HS2.out HE1.out HE2.out hP.out
          generalize est : s * t = st at *
          obtain ⟨q1, q2, q3⟩ := hsg
          have Q1 := Lib.hid q1
          have Q3 := Lib.hid q3
          clear q1 q3
          obtain ⟨Ao, co, eo, hco, hro, _⟩ := RdI.own ho
          simp only [Value.slice.injEq] at eo
          obtain ⟨rfl, _, rfl⟩ := eo
          have HBR := blk_below hbR hB
          have HBB := bl_then HB hB
          go_wp2_with fail
          refine (made_calls _ _ _ _ out _ hro hO.dig hco Q1.out).mono ?_
          rintro e w4 ⟨v, A, n, c, rfl, hI, hB4⟩
          replace HBR := blk_below HBR hB4
          replace HBB := bl_then HBB hB4
          rw [Q3.out] at hI
          clear hB4
          obtain ⟨z1, z2, z3, z4⟩ := bx2 HBR
          have hE := Lib.hid (putInt hI HBR HBB (by omega))
          go_wp2
          refine bodyPost_ret (results_cell_row rfl _ _ (w.heap.size + 1 + 1) 61 #[.int .i64 v, .slice A n c] (0, 0) _ rfl hE.out.2.2 Try.underlying61 rfl (by kernel_rfl)) rfl ?_
          exact ⟨_, _, _, _, rfl, hE.out.1, hE.out.2.1⟩
end Go.Proofs.Ytjmbpeniibdnoaa
