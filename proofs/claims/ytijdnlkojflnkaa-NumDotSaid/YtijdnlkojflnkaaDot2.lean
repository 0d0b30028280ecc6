/- num: Dot. -/
import Derived.Test.YtijdnlkojflnkaaDot1
set_option linter.unusedVariables false
set_option linter.unusedSimpArgs false
namespace Go.Proofs.Ytijdnlkojflnkaa
open Go.RowKit

theorem keep4_st4g {w : World} {ga gb i1 i2 i3 i4 : Nat} {x1 x2 x3 x4 : Value} {g : Nat} {y1 y2 y3 y4 : Value} (h : w.cell? ⟨ga, i1, none⟩ = some x1 ∧ w.cell? ⟨ga, i2, none⟩ = some x2 ∧ w.cell? ⟨gb, i3, none⟩ = some x3 ∧ w.cell? ⟨gb, i4, none⟩ = some x4) (e1 : ga ≠ g) (e2 : gb ≠ g) :
    let W := (((w.setCell ⟨g, 0, none⟩ y1).setCell ⟨g, 1, none⟩ y2).setCell ⟨g, 2, none⟩ y3).setCell ⟨g, 3, none⟩ y4
    W.cell? ⟨ga, i1, none⟩ = some x1 ∧ W.cell? ⟨ga, i2, none⟩ = some x2 ∧ W.cell? ⟨gb, i3, none⟩ = some x3 ∧ W.cell? ⟨gb, i4, none⟩ = some x4 :=
  keep4_set1 (keep4_set1 (keep4_set1 (keep4_set1 h e1 e1 e2 e2) e1 e1 e2 e2) e1 e1 e2 e2) e1 e1 e2 e2
theorem idx0 (a b : Value) (w : World) : (Instr.index 78 (.agg #[a, b]) (.int .i64 0)).run Try.prog w = .ok a w := by
  simp [Instr.index, run_underlying Try.underlying78, asIntOf, go_sem]
theorem idx1 (a b : Value) (w : World) : (Instr.index 78 (.agg #[a, b]) (.int .i64 1)).run Try.prog w = .ok b w := by
  simp [Instr.index, run_underlying Try.underlying78, asIntOf, go_sem]
/-- Where the loop over both slices stands. -/
def DJ (xs ys : List (Int × Int)) (i : Value) : Prop := i = .int .i64 0 ∨ (i = .int .i64 1 ∧ OkNs xs) ∨ (i = .int .i64 2 ∧ OkNs xs ∧ OkNs ys)

set_option maxHeartbeats 40000000 in
set_option maxRecDepth 100000 in
theorem ndot_calls (A : Option Addr) (n c : Nat) (xs : List (Int × Int)) (A' : Option Addr) (n' c' : Nat) (ys : List (Int × Int)) (w : World) (h : RdN w A n xs) (h' : RdN w A' n' ys) (hi : I64s xs) (hi' : I64s ys) (hn : n ≤ 200) (hn' : n' ≤ 200) :
    Calls Try.prog 33 #[.slice A n c, .slice A' n' c'] w fun e w' => NumR e (dotT xs ys) (dotL xs ys) (dotE xs ys) ∧ Below w.heap.size w w' := by
  have LX := Lib.hid h.1
  have LY := Lib.hid h'.1
  have HNO : Hid (¬ (OkNs xs ∧ OkNs ys) → dotT xs ys = 0 ∧ dotL xs ys = 0 ∧ dotE xs ys = 1) := Lib.hid (fun oo => by unfold dotT dotL dotE; rw [if_pos oo, if_pos oo, if_pos oo]; exact ⟨rfl, rfl, rfl⟩)
  have HLEN : Hid (OkNs xs → OkNs ys → n ≠ n' → dotT xs ys = 0 ∧ dotL xs ys = 0 ∧ dotE xs ys = 2) := Lib.hid (fun o1 o2 hl => by
    have oo : ¬ ¬ (OkNs xs ∧ OkNs ys) := fun k => k ⟨o1, o2⟩
    have hl' : xs.length ≠ ys.length := by rw [LX.out, LY.out]; exact hl
    unfold dotT dotL dotE
    rw [if_neg oo, if_neg oo, if_neg oo, if_pos hl', if_pos hl', if_pos hl']
    exact ⟨rfl, rfl, rfl⟩)
  have HOK : Hid (OkNs xs → OkNs ys → n = n' → outT (dotV xs ys n) = dotT xs ys ∧ outL (dotV xs ys n) = dotL xs ys ∧ outE (dotV xs ys n) = dotE xs ys) := Lib.hid (fun o1 o2 hl => by
    have oo : ¬ ¬ (OkNs xs ∧ OkNs ys) := fun k => k ⟨o1, o2⟩
    have hl' : ¬ xs.length ≠ ys.length := by rw [LX.out, LY.out]; exact fun k => k hl
    unfold dotT dotL dotE
    rw [if_neg oo, if_neg oo, if_neg oo, if_neg hl', if_neg hl', if_neg hl', LX.out]
    exact ⟨rfl, rfl, rfl⟩)
  generalize dotT xs ys = oT at *
  generalize dotL xs ys = oL at *
  generalize dotE xs ys = oE at *
  go_enter Try.func33, Try.ntmps33
  go_upto_region 1 with (fail)
  have B0 := bl_alloc (Below.refl w.heap.size w) (.cells #[.int .i64 0, .int .i64 0] 23)
  have a1 : (w.alloc (.cells #[.int .i64 0, .int .i64 0] 23)).heap[w.heap.size]? = some (.cells #[.int .i64 0, .int .i64 0] 23 (0, 0)) := blk_at _ rfl
  generalize w.alloc (.cells #[.int .i64 0, .int .i64 0] 23) = W0 at *
  go_wp2_with fail
  go_loopw [15] (fun i wr => DJ xs ys i ∧ wr.heap[w.heap.size]? = some (.cells #[.int .i64 0, .int .i64 0] 23 (0, 0)) ∧ Below w.heap.size w wr) (fun i _ => (2 - intOf i).toNat)
  case atStart => exact ⟨.inl rfl, a1, B0⟩
  case round =>
    clear a1 B0
    obtain ⟨hj, a1, B0⟩ := hrel
    rcases hj with rfl | ⟨rfl, ox⟩ | ⟨rfl, ox, oy⟩
    · have q0 := fun W => idx0 (.slice A n c) (.slice A' n' c') W
      go_wp2_with fail
      go_loopw [20] (fun i wr => ∃ k : Nat, k ≤ n ∧ i = .int .i64 k ∧ (∀ j, j < k → OkN (xs.getD j (0, 0)).1 (xs.getD j (0, 0)).2) ∧ wr.heap[w.heap.size]? = some (.cells #[.int .i64 0, .int .i64 0] 23 (0, 0)) ∧ Below w.heap.size w wr) (fun i _ => n - (intOf i).toNat)
      case atStart => exact ⟨0, Nat.zero_le _, rfl, fun j hj => absurd hj (by omega), a1, B0⟩
      case round =>
        clear a1 B0
        obtain ⟨k, hk, rfl, hall, a1, B0⟩ := hrel
        have HALL := Lib.hid hall
        clear hall
        by_cases hlt : k < n
        · have hr := h.below B0
          obtain ⟨g, off, rfl, hg, hc⟩ := hr.2.2 (by omega)
          obtain ⟨c1, c2⟩ := hc k hlt
          have i64 := Lib.hid (hi.at k (by rw [LX.out]; exact hlt))
          clear hc hr
          generalize hx1 : (xs.getD k (0, 0)).1 = x1 at *
          generalize hx2 : (xs.getD k (0, 0)).2 = x2 at *
          have HX1 := Lib.hid hx1
          have HX2 := Lib.hid hx2
          clear hx1 hx2
          go_wp2_with fail
          refine (valid_calls x1 x2 _ i64.out.1.1 i64.out.1.2 i64.out.2.1 i64.out.2.2).mono ?_
          rintro e w1 ⟨he, hB1⟩
          replace a1 := blk_below (blk_alloc a1 _) hB1
          replace B0 := bl_then (bl_alloc B0 _) hB1
          clear hB1 c1 c2
          by_cases hok : OkN x1 x2
          · rw [decide_eq_true hok] at he
            subst he
            replace hok := Lib.hid hok
            go_wp2
            go_roundw
            case rel =>
              refine ⟨k + 1, hlt, by go_num, ?_, a1, B0⟩
              intro j hj
              rcases Nat.lt_or_ge j k with h1 | h1
              · exact HALL.out j h1
              · have : j = k := by omega
                subst this
                rw [HX1.out, HX2.out]
                exact hok.out
            case measure => simp [intOf]; omega
          · rw [decide_eq_false hok] at he
            subst he
            obtain ⟨rfl, rfl, rfl⟩ := HNO.out (fun hh => hok (by
              have := hh.1.at k (by rw [LX.out]; exact hlt)
              rw [HX1.out, HX2.out] at this
              exact this))
            obtain ⟨z1, z2, z3, z4⟩ := bx2 a1
            go_wp2
            refine bodyPost_ret (results_cell_tmp_row rfl _ _ w.heap.size 23 #[.int .i64 0, .int .i64 0] (0, 0) _ _ rfl (by first | exact a1 | exact blk_set2 a1 _ _) Try.underlying23 rfl (by kernel_rfl) rfl) rfl ?_
            exact ⟨rfl, by first | exact B0 | exact bl_set (bl_set B0 (Nat.le_refl _) _) (Nat.le_refl _) _⟩
        · have OKA := OkNs.of (xs := xs) fun j hj => HALL.out j (by rw [LX.out] at hj; omega)
          go_wp2
          go_roundw
          case rel => exact ⟨.inr (.inl ⟨rfl, OKA⟩), a1, B0⟩
          case measure => simp [intOf]
    · replace ox := Lib.hid ox
      have q0 := fun W => idx1 (.slice A n c) (.slice A' n' c') W
      go_wp2_with fail
      go_loopw [20] (fun i wr => ∃ k : Nat, k ≤ n' ∧ i = .int .i64 k ∧ (∀ j, j < k → OkN (ys.getD j (0, 0)).1 (ys.getD j (0, 0)).2) ∧ wr.heap[w.heap.size]? = some (.cells #[.int .i64 0, .int .i64 0] 23 (0, 0)) ∧ Below w.heap.size w wr) (fun i _ => n' - (intOf i).toNat)
      case atStart => exact ⟨0, Nat.zero_le _, rfl, fun j hj => absurd hj (by omega), a1, B0⟩
      case round =>
        clear a1 B0
        obtain ⟨k, hk, rfl, hall, a1, B0⟩ := hrel
        have HALL := Lib.hid hall
        clear hall
        by_cases hlt : k < n'
        · have hr := h'.below B0
          obtain ⟨g, off, rfl, hg, hc⟩ := hr.2.2 (by omega)
          obtain ⟨c1, c2⟩ := hc k hlt
          have i64 := Lib.hid (hi'.at k (by rw [LY.out]; exact hlt))
          clear hc hr
          generalize hx1 : (ys.getD k (0, 0)).1 = x1 at *
          generalize hx2 : (ys.getD k (0, 0)).2 = x2 at *
          have HX1 := Lib.hid hx1
          have HX2 := Lib.hid hx2
          clear hx1 hx2
          go_wp2_with fail
          refine (valid_calls x1 x2 _ i64.out.1.1 i64.out.1.2 i64.out.2.1 i64.out.2.2).mono ?_
          rintro e w1 ⟨he, hB1⟩
          replace a1 := blk_below (blk_alloc a1 _) hB1
          replace B0 := bl_then (bl_alloc B0 _) hB1
          clear hB1 c1 c2
          by_cases hok : OkN x1 x2
          · rw [decide_eq_true hok] at he
            subst he
            replace hok := Lib.hid hok
            go_wp2
            go_roundw
            case rel =>
              refine ⟨k + 1, hlt, by go_num, ?_, a1, B0⟩
              intro j hj
              rcases Nat.lt_or_ge j k with h1 | h1
              · exact HALL.out j h1
              · have : j = k := by omega
                subst this
                rw [HX1.out, HX2.out]
                exact hok.out
            case measure => simp [intOf]; omega
          · rw [decide_eq_false hok] at he
            subst he
            obtain ⟨rfl, rfl, rfl⟩ := HNO.out (fun hh => hok (by
              have := hh.2.at k (by rw [LY.out]; exact hlt)
              rw [HX1.out, HX2.out] at this
              exact this))
            obtain ⟨z1, z2, z3, z4⟩ := bx2 a1
            go_wp2
            refine bodyPost_ret (results_cell_tmp_row rfl _ _ w.heap.size 23 #[.int .i64 0, .int .i64 0] (0, 0) _ _ rfl (by first | exact a1 | exact blk_set2 a1 _ _) Try.underlying23 rfl (by kernel_rfl) rfl) rfl ?_
            exact ⟨rfl, by first | exact B0 | exact bl_set (bl_set B0 (Nat.le_refl _) _) (Nat.le_refl _) _⟩
        · have OKA := OkNs.of (xs := ys) fun j hj => HALL.out j (by rw [LY.out] at hj; omega)
          go_wp2
          go_roundw
          case rel => exact ⟨.inr (.inr ⟨rfl, ox.out, OKA⟩), a1, B0⟩
          case measure => simp [intOf]
    · by_cases hl : n = n'
      · have K := Lib.hid (HOK.out ox oy hl)
        subst hl
        have oxs := Lib.hid ox
        have oys := Lib.hid oy
        clear ox oy
        have nq : ((n : Int) != (n : Int)) = false := by simp
        have HL : xs.length = ys.length := by rw [LX.out, LY.out]
        have SZ := Lib.hid (fun k hk => dotV_sz oxs.out oys.out HL k hk)
        clear HL
        have g5 : RatV wr 0 none 0 0 0 none 0 0 (dotV xs ys 0) := ⟨IntV.small _ (by decide) (by decide), 0, IntV.small _ (by decide) (by decide), .inr ⟨rfl, rfl⟩⟩
        have R5 := RB.new wr g5 rfl
        have lgs := blk_lt a1
        replace a1 := blk_alloc a1 (.cells #[.int .i64 0, .slice none 0 0, .int .i64 0, .slice none 0 0] 50)
        replace B0 := bl_alloc B0 (.cells #[.int .i64 0, .slice none 0 0, .int .i64 0, .slice none 0 0] 50)
        have sz3 := (show w.heap.size ≤ wr.heap.size by omega)
        clear g5
        go_upto_region 14 with (fail)
        generalize hgs : wr.heap.size = gs at *
        generalize wr.alloc (.cells #[.int .i64 0, .slice none 0 0, .int .i64 0, .slice none 0 0] 50) = W3 at *
        clear hgs
        go_wp2_with fail
        go_loopw [38] (fun i wr => ∃ (k : Nat) (v8 : Int) (A8 : Option Addr) (n8 c8 : Nat) (v8' : Int) (A8' : Option Addr) (n8' c8' : Nat), k ≤ n ∧ i = .int .i64 k ∧ RB wr (gs) v8 A8 n8 c8 v8' A8' n8' c8' (dotV xs ys k) ∧ wr.heap[w.heap.size]? = some (.cells #[.int .i64 0, .int .i64 0] 23 (0, 0)) ∧ Below w.heap.size w wr) (fun i _ => n - (intOf i).toNat)
        case atStart => exact ⟨0, 0, none, 0, 0, 0, none, 0, 0, Nat.zero_le _, rfl, R5, a1, B0⟩
        case round =>
          clear R5 a1 B0
          obtain ⟨k, v8, A8, n8, c8, v8', A8', n8', c8', hk, rfl, R5, a1, B0⟩ := hrel
          by_cases hlt : k < n
          · obtain ⟨g1, o1, rfl, hg1, hc1⟩ := h.2.2 (by omega)
            obtain ⟨g2, o2, rfl, hg2, hc2⟩ := h'.2.2 (by omega)
            have N1 := Lib.hid (show g1 ≠ gs by omega)
            have N2 := Lib.hid (show g2 ≠ gs by omega)
            have Q0 : wr.cell? ⟨g1, o1 + k * 2, none⟩ = some (Value.int .i64 (xs.getD k (0, 0)).1) ∧ wr.cell? ⟨g1, o1 + k * 2 + 1, none⟩ = some (Value.int .i64 (xs.getD k (0, 0)).2) ∧ wr.cell? ⟨g2, o2 + k * 2, none⟩ = some (Value.int .i64 (ys.getD k (0, 0)).1) ∧ wr.cell? ⟨g2, o2 + k * 2 + 1, none⟩ = some (Value.int .i64 (ys.getD k (0, 0)).2) := by
              obtain ⟨e1, e2⟩ := hc1 k hlt
              obtain ⟨e3, e4⟩ := hc2 k hlt
              exact ⟨by rw [(cells_below B0).1 _ _ hg1]; exact e1, by rw [(cells_below B0).1 _ _ hg1]; exact e2, by rw [(cells_below B0).1 _ _ hg2]; exact e3, by rw [(cells_below B0).1 _ _ hg2]; exact e4⟩
            have okx := Lib.hid (oxs.out.at k (by rw [LX.out]; exact hlt))
            have oky := Lib.hid (oys.out.at k (by rw [LY.out]; exact hlt))
            have ivx := Lib.hid (hi.at k (by rw [LX.out]; exact hlt))
            have ivy := Lib.hid (hi'.at k (by rw [LY.out]; exact hlt))
            have SK := SZ.out k (by rw [LX.out]; exact hk)
            have SX := (num_sz okx.out).1
            have SY := (num_sz oky.out).1
            have SXY := szr_mul SX SY
            have DS := Lib.hid (show dotV xs ys (k + 1) = dotV xs ys k + Rat.divInt (xs.getD k (0, 0)).1 (xs.getD k (0, 0)).2 * Rat.divInt (ys.getD k (0, 0)).1 (ys.getD k (0, 0)).2 from rfl)
            clear hc1 hc2 h h'
            generalize (xs.getD k (0, 0)).1 = x1 at *
            generalize (xs.getD k (0, 0)).2 = x2 at *
            generalize (ys.getD k (0, 0)).1 = y1 at *
            generalize (ys.getD k (0, 0)).2 = y2 at *
            generalize hqx : Rat.divInt x1 x2 = qx at *
            generalize hqy : Rat.divInt y1 y2 = qy at *
            have HQX := Lib.hid hqx
            have HQY := Lib.hid hqy
            clear hqx hqy
            have hk0 : (0 : Int) ≤ (k : Int) := by omega
            have hkn : (k : Int) < (n : Int) := by omega
            have R5_0 := R5
            have a1_0 := a1
            have HB_0 := B0
            have F0 := bx4 R5.1
            obtain ⟨⟨f1, f2, f3, f4⟩, f5, f6, f7, f8⟩ := F0
            obtain ⟨p1, p2, p3, p4⟩ := Q0
            have Q0 := And.intro p1 (And.intro p2 (And.intro p3 p4))
            have NA := Lib.hid (show w.heap.size ≠ gs by omega)
            go_wp2_with fail
            go_region_with (first | (have _hh := HB_3; go_at_call 51; refine (radd_calls v8 A8 n8 c8 v8' A8' n8' c8' (dotV xs ys k) v3 A3 n3 c3 v3' A3' n3' c3' (qx * qy) _ (by repeat (first | with_reducible exact RB.val R5_3 | with_reducible refine RatV.kp ?_ ((Kp.refl _ _).alloc _) | with_reducible refine RatV.kp ?_ (Kp.refl _ _).drew)) (by repeat (first | with_reducible exact t3_3 | with_reducible refine RatV.kp ?_ ((Kp.refl _ _).alloc _) | with_reducible refine RatV.kp ?_ (Kp.refl _ _).drew)) 30000 (SK.mono (by omega)) (SXY.mono (by omega)) (by omega)).mono ?_; rintro e ww4 ⟨⟨v4, A4, n4, c4, v4', A4', n4', c4', rfl, t4_4⟩, hB4⟩; have R5_4 : RB ww4 (gs) v8 A8 n8 c8 v8' A8' n8' c8' (dotV xs ys k) := (by repeat (first | with_reducible exact R5_3 | with_reducible refine RB.below ?_ hB4 | with_reducible refine RB.alloc ?_ _ | with_reducible refine RB.drew ?_)); have a1_4 : ww4.heap[w.heap.size]? = some (.cells #[.int .i64 0, .int .i64 0] 23 (0, 0)) := (by repeat (first | with_reducible exact a1_3 | with_reducible refine blk_below ?_ hB4 | with_reducible refine blk_alloc ?_ _ | with_reducible refine blk_drew ?_)); have t1_4 : RatV ww4 v1 A1 n1 c1 v1' A1' n1' c1' (qx) := (by repeat (first | with_reducible exact t1_3 | with_reducible refine RatV.below ?_ hB4 | with_reducible refine RatV.kp ?_ ((Kp.refl _ _).alloc _) | with_reducible refine RatV.kp ?_ (Kp.refl _ _).drew)); have t2_4 : RatV ww4 v2 A2 n2 c2 v2' A2' n2' c2' (qy) := (by repeat (first | with_reducible exact t2_3 | with_reducible refine RatV.below ?_ hB4 | with_reducible refine RatV.kp ?_ ((Kp.refl _ _).alloc _) | with_reducible refine RatV.kp ?_ (Kp.refl _ _).drew)); have t3_4 : RatV ww4 v3 A3 n3 c3 v3' A3' n3' c3' (qx * qy) := (by repeat (first | with_reducible exact t3_3 | with_reducible refine RatV.below ?_ hB4 | with_reducible refine RatV.kp ?_ ((Kp.refl _ _).alloc _) | with_reducible refine RatV.kp ?_ (Kp.refl _ _).drew)); have HB_4 : Below w.heap.size w ww4 := (by repeat (first | with_reducible exact HB_3 | with_reducible refine bl_then ?_ hB4 | with_reducible refine bl_alloc ?_ _ | with_reducible refine bl_drew ?_)); have P4 := RB.s4 (R5_4); have Q4 := keep4 hB4 Q3; have F4 := bx4 R5_4.1; obtain ⟨⟨f41, f42, f43, f44⟩, f45, f46, f47, f48⟩ := F4) | (have _hh := HB_2; go_at_call 52; refine (rmul_calls v1 A1 n1 c1 v1' A1' n1' c1' qx v2 A2 n2 c2 v2' A2' n2' c2' qy _ (by repeat (first | with_reducible exact t1_2 | with_reducible refine RatV.kp ?_ ((Kp.refl _ _).alloc _) | with_reducible refine RatV.kp ?_ (Kp.refl _ _).drew)) (by repeat (first | with_reducible exact t2_2 | with_reducible refine RatV.kp ?_ ((Kp.refl _ _).alloc _) | with_reducible refine RatV.kp ?_ (Kp.refl _ _).drew)) 64 SX SY (by omega)).mono ?_; rintro e ww3 ⟨⟨v3, A3, n3, c3, v3', A3', n3', c3', rfl, t3_3⟩, hB3⟩; have R5_3 : RB ww3 (gs) v8 A8 n8 c8 v8' A8' n8' c8' (dotV xs ys k) := (by repeat (first | with_reducible exact R5_2 | with_reducible refine RB.below ?_ hB3 | with_reducible refine RB.alloc ?_ _ | with_reducible refine RB.drew ?_)); have a1_3 : ww3.heap[w.heap.size]? = some (.cells #[.int .i64 0, .int .i64 0] 23 (0, 0)) := (by repeat (first | with_reducible exact a1_2 | with_reducible refine blk_below ?_ hB3 | with_reducible refine blk_alloc ?_ _ | with_reducible refine blk_drew ?_)); have t1_3 : RatV ww3 v1 A1 n1 c1 v1' A1' n1' c1' (qx) := (by repeat (first | with_reducible exact t1_2 | with_reducible refine RatV.below ?_ hB3 | with_reducible refine RatV.kp ?_ ((Kp.refl _ _).alloc _) | with_reducible refine RatV.kp ?_ (Kp.refl _ _).drew)); have t2_3 : RatV ww3 v2 A2 n2 c2 v2' A2' n2' c2' (qy) := (by repeat (first | with_reducible exact t2_2 | with_reducible refine RatV.below ?_ hB3 | with_reducible refine RatV.kp ?_ ((Kp.refl _ _).alloc _) | with_reducible refine RatV.kp ?_ (Kp.refl _ _).drew)); have HB_3 : Below w.heap.size w ww3 := (by repeat (first | with_reducible exact HB_2 | with_reducible refine bl_then ?_ hB3 | with_reducible refine bl_alloc ?_ _ | with_reducible refine bl_drew ?_)); have P3 := RB.s4 (R5_3); have Q3 := keep4 hB3 Q2; have F3 := bx4 R5_3.1; obtain ⟨⟨f31, f32, f33, f34⟩, f35, f36, f37, f38⟩ := F3) | (have _hh := HB_1; go_at_call_of 35 (Value.agg #[.int .i64 y1, .int .i64 y2]); refine (rat_calls y1 y2 _ ivy.out.1.1 ivy.out.1.2 ivy.out.2.1 ivy.out.2.2 (by have := oky.out.1; omega)).mono ?_; rintro e ww2 ⟨⟨v2, A2, n2, c2, v2', A2', n2', c2', rfl, t2_2⟩, hB2⟩; rw [HQY.out] at t2_2; have R5_2 : RB ww2 (gs) v8 A8 n8 c8 v8' A8' n8' c8' (dotV xs ys k) := (by repeat (first | with_reducible exact R5_1 | with_reducible refine RB.below ?_ hB2 | with_reducible refine RB.alloc ?_ _ | with_reducible refine RB.drew ?_)); have a1_2 : ww2.heap[w.heap.size]? = some (.cells #[.int .i64 0, .int .i64 0] 23 (0, 0)) := (by repeat (first | with_reducible exact a1_1 | with_reducible refine blk_below ?_ hB2 | with_reducible refine blk_alloc ?_ _ | with_reducible refine blk_drew ?_)); have t1_2 : RatV ww2 v1 A1 n1 c1 v1' A1' n1' c1' (qx) := (by repeat (first | with_reducible exact t1_1 | with_reducible refine RatV.below ?_ hB2 | with_reducible refine RatV.kp ?_ ((Kp.refl _ _).alloc _) | with_reducible refine RatV.kp ?_ (Kp.refl _ _).drew)); have HB_2 : Below w.heap.size w ww2 := (by repeat (first | with_reducible exact HB_1 | with_reducible refine bl_then ?_ hB2 | with_reducible refine bl_alloc ?_ _ | with_reducible refine bl_drew ?_)); have P2 := RB.s4 (R5_2); have Q2 := keep4 hB2 Q1; have F2 := bx4 R5_2.1; obtain ⟨⟨f21, f22, f23, f24⟩, f25, f26, f27, f28⟩ := F2) | (go_at_call_of 35 (Value.agg #[.int .i64 x1, .int .i64 x2]); refine (rat_calls x1 x2 _ ivx.out.1.1 ivx.out.1.2 ivx.out.2.1 ivx.out.2.2 (by have := okx.out.1; omega)).mono ?_; rintro e ww1 ⟨⟨v1, A1, n1, c1, v1', A1', n1', c1', rfl, t1_1⟩, hB1⟩; rw [HQX.out] at t1_1; have R5_1 : RB ww1 (gs) v8 A8 n8 c8 v8' A8' n8' c8' (dotV xs ys k) := (by repeat (first | with_reducible exact R5_0 | with_reducible refine RB.below ?_ hB1 | with_reducible refine RB.alloc ?_ _ | with_reducible refine RB.drew ?_)); have a1_1 : ww1.heap[w.heap.size]? = some (.cells #[.int .i64 0, .int .i64 0] 23 (0, 0)) := (by repeat (first | with_reducible exact a1_0 | with_reducible refine blk_below ?_ hB1 | with_reducible refine blk_alloc ?_ _ | with_reducible refine blk_drew ?_)); have HB_1 : Below w.heap.size w ww1 := (by repeat (first | with_reducible exact HB_0 | with_reducible refine bl_then ?_ hB1 | with_reducible refine bl_alloc ?_ _ | with_reducible refine bl_drew ?_)); have P1 := RB.s4 (R5_1); have Q1 := keep4 hB1 (by first | exact Q0 | exact kdrew4 Q0); have F1 := bx4 R5_1.1; obtain ⟨⟨f11, f12, f13, f14⟩, f15, f16, f17, f18⟩ := F1))
            all_goals
              have U1 := Lib.hid (RB.put t4_4 R5_4.1)
              have U2 := Lib.hid (blk_far4 a1_4 NA.out (.int .i64 v4) (.slice A4 n4 c4) (.int .i64 v4') (.slice A4' n4' c4'))
              have U3 := Lib.hid (bl_set4 (g := gs) HB_4 (by omega) (.int .i64 v4) (.slice A4 n4 c4) (.int .i64 v4') (.slice A4' n4' c4'))
              go_wp2
              go_roundw
              case rel => exact ⟨k + 1, v4, A4, n4, c4, v4', A4', n4', c4', hlt, by go_num, by rw [DS.out]; exact U1.out, U2.out, U3.out⟩
              case measure => simp [intOf]; omega
          · have hkn : k = n := by omega
            subst hkn
            obtain ⟨⟨f1, f2, f3, f4⟩, f5, f6, f7, f8⟩ := bx4 R5.1
            go_wp2_with fail
            refine (out_calls v8 A8 n8 c8 v8' A8' n8' c8' (dotV xs ys k) _ R5.2).mono ?_
            rintro e w4 ⟨he, hB4⟩
            rw [K.out.1, K.out.2.1, K.out.2.2] at he
            unfold NumR at he
            subst he
            replace a1 := blk_below a1 hB4
            replace B0 := bl_then B0 hB4
            clear hB4 f1 f2 f3 f4 f5 f6 f7 f8 R5
            obtain ⟨z1, z2, z3, z4⟩ := bx2 a1
            go_wp2
            refine bodyPost_ret (results_cell_tmp_row rfl _ _ w.heap.size 23 #[.int .i64 oT, .int .i64 oL] (0, 0) _ _ rfl (by first | exact a1 | exact blk_set2 a1 _ _) Try.underlying23 rfl (by kernel_rfl) rfl) rfl ?_
            exact ⟨rfl, by first | exact B0 | exact bl_set (bl_set B0 (Nat.le_refl _) _) (Nat.le_refl _) _⟩
      · obtain ⟨rfl, rfl, rfl⟩ := HLEN.out ox oy hl
        have nq : ((n : Int) != (n' : Int)) = true := by simp; omega
        clear ox oy hl
        obtain ⟨z1, z2, z3, z4⟩ := bx2 a1
        go_wp2
        refine bodyPost_ret (results_cell_tmp_row rfl _ _ w.heap.size 23 #[.int .i64 0, .int .i64 0] (0, 0) _ _ rfl (by first | exact a1 | exact blk_set2 a1 _ _) Try.underlying23 rfl (by kernel_rfl) rfl) rfl ?_
        exact ⟨rfl, by first | exact B0 | exact bl_set (bl_set B0 (Nat.le_refl _) _) (Nat.le_refl _) _⟩
end Go.Proofs.Ytijdnlkojflnkaa
