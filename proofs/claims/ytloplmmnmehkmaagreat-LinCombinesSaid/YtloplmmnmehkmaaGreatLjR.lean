/- reference: rationals. reference: operations on rationals. reference: To, Valid, From, Num, Down. -/
import Derived.Test.YtloplmmnmehkmaaGreatRef9
import Derived.Test.YtloplmmnmehkmaaGreatRat3
import Derived.Test.YtloplmmnmehkmaaGreatNum1
set_option linter.unusedVariables false
set_option linter.unusedSimpArgs false
namespace Go.Proofs.YtloplmmnmehkmaaGreat
open Go.RowKit

/-- A rational of the reference. -/
def RRV (w : World) (s : Int) (b : Bool) (A : Option Addr) (n c : Nat) (s' : Int) (b' : Bool) (A' : Option Addr) (n' c' : Nat) (q : Rat) : Prop := RV w s b A n c q.num ∧ RV w s' b' A' n' c' (q.den : Int)
def RRatR (e : Ending) (w : World) (q : Rat) : Prop := ∃ (s : Int) (b : Bool) (A : Option Addr) (n c : Nat) (s' : Int) (b' : Bool) (A' : Option Addr) (n' c' : Nat), e = .returned (.agg #[.int .i64 s, .bool b, .slice A n c, .int .i64 s', .bool b', .slice A' n' c']) ∧ RRV w s b A n c s' b' A' n' c' q
section
variable {w w' W : World} {s : Int} {b : Bool} {A : Option Addr} {n c : Nat} {s' : Int} {b' : Bool} {A' : Option Addr} {n' c' : Nat} {q : Rat} {g : Nat}
theorem RRV.kp (h : RRV w s b A n c s' b' A' n' c' q) (e : Kp 3 w w') : RRV w' s b A n c s' b' A' n' c' q := ⟨h.1.kp e, h.2.kp e⟩
theorem RRV.below (h : RRV w s b A n c s' b' A' n' c' q) (e : Below w.heap.size w w') : RRV w' s b A n c s' b' A' n' c' q := ⟨h.1.below e, h.2.below e⟩
theorem putRR {a1 a2 a3 a4 a5 a6 : Value} (h : RRV W s b A n c s' b' A' n' c' q) (hb : W.heap[g]? = some (.cells #[a1, a2, a3, a4, a5, a6] 51 (0, 0))) (hB : Below w.heap.size w W) (hg : w.heap.size ≤ g) :
  let W' := (((((W.setCell ⟨g, 0, none⟩ (.int .i64 s)).setCell ⟨g, 1, none⟩ (.bool b)).setCell ⟨g, 2, none⟩ (.slice A n c)).setCell ⟨g, 3, none⟩ (.int .i64 s')).setCell ⟨g, 4, none⟩ (.bool b')).setCell ⟨g, 5, none⟩ (.slice A' n' c')
  RRV W' s b A n c s' b' A' n' c' q ∧ Below w.heap.size w W' ∧ W'.heap[g]? = some (.cells #[.int .i64 s, .bool b, .slice A n c, .int .i64 s', .bool b', .slice A' n' c'] 51 (0, 0)) :=
 ⟨h.kp (kp_set6 hb _ _ _ _ _ _), bl_set6 hB hg _ _ _ _ _ _, blk_set6 hb _ _ _ _ _ _⟩
end

end Go.Proofs.YtloplmmnmehkmaaGreat

namespace Go.Proofs.YtloplmmnmehkmaaGreat
open Go.RowKit










end Go.Proofs.YtloplmmnmehkmaaGreat

namespace Go.Proofs.YtloplmmnmehkmaaGreat
open Go.RowKit

theorem num_sz {t l : Int} (h : OkN t l) : SzR 64 (Rat.divInt t l) ∧ (Rat.divInt t l).num = t ∧ ((Rat.divInt t l).den : Int) = l := by
 obtain ⟨h1, h2, h3, h4, h5⟩ := h
 have e1 := divInt_num (x := t) (y := l) (by omega)
 have e2 := divInt_den (x := t) (y := l) (by omega)
 rw [h5, Int.sign_eq_one_of_pos (by omega)] at e1 e2
 simp at e1 e2
 refine ⟨⟨?_, ?_⟩, e1, e2⟩
 ·rw [e1]; exact Sz.small (by omega) (by omega)
 ·rw [e2]; exact Sz.small (by omega) (by omega)

theorem cx2 {w : World} {g : Nat} {t : TypeId} {a b : Value} (h : w.heap[g]? = some (.cells #[a, b] t (0, 0))) : w.cell? ⟨g, 0, none⟩ = some a ∧ w.cell? ⟨g, 1, none⟩ = some b := ⟨(bx2 h).1, (bx2 h).2.1⟩

set_option maxHeartbeats 4000000 in
set_option maxRecDepth 100000 in
theorem rto_calls (t l : Int) (w : World) (ok : OkN t l) :
  Calls Tryz.prog 28 #[.agg #[.int .i64 t, .int .i64 l]] w fun e w' => RRatR e w' (Rat.divInt t l) ∧ Below w.heap.size w w' := by
 have N := num_sz ok
 have HN := Lib.hid N.2
 have okH := Lib.hid ok
 clear N ok
 generalize Rat.divInt t l = q at *
 go_enter Tryz.func28, Tryz.ntmps28
 go_wp2_with fail
 have B0 := bl_alloc (bl_alloc (Below.refl w.heap.size w) (.cells #[.int .i64 t, .int .i64 l] 56)) (.cells #[.int .i64 0, .bool false, .slice none 0 0, .int .i64 0, .bool false, .slice none 0 0] 51)
 have a1 : ((w.alloc (.cells #[.int .i64 t, .int .i64 l] 56)).alloc (.cells #[.int .i64 0, .bool false, .slice none 0 0, .int .i64 0, .bool false, .slice none 0 0] 51)).heap[w.heap.size]? = some (.cells #[.int .i64 t, .int .i64 l] 56 (0, 0)) := blk_alloc (blk_at _ rfl) _
 have a2 : ((w.alloc (.cells #[.int .i64 t, .int .i64 l] 56)).alloc (.cells #[.int .i64 0, .bool false, .slice none 0 0, .int .i64 0, .bool false, .slice none 0 0] 51)).heap[w.heap.size + 1]? = some (.cells #[.int .i64 0, .bool false, .slice none 0 0, .int .i64 0, .bool false, .slice none 0 0] 51 (0, 0)) := blk_at _ (by simp)
 generalize (w.alloc (.cells #[.int .i64 t, .int .i64 l] 56)).alloc (.cells #[.int .i64 0, .bool false, .slice none 0 0, .int .i64 0, .bool false, .slice none 0 0] 51) = W0 at *
 have N13 := Lib.hid (show w.heap.size ≠ w.heap.size + 1 by omega)
 have a1_0 := a1
 have a2_0 := a2
 have HB_0 := B0
 obtain ⟨p1, p2, p3, p4⟩ := bx2 a1
 go_region_held3 (fun W => W.cell? ⟨w.heap.size, 0, none⟩ = some (Value.int .i64 t) ∧ W.cell? ⟨w.heap.size, 1, none⟩ = some (Value.int .i64 l)) (first | with_reducible exact P2 | with_reducible exact P1 | with_reducible exact (cx2 (blk_drew a1_0)) | with_reducible exact (cx2 (blk_far6 (a1_2) N13.out _ _ _ _ _ _)) | go_keep) (first | (have _hh := HB_1; go_at_call 76; refine (rof_calls l _ (by have := okH.out.1; omega) (by have := okH.out.2; omega)).mono ?_; rintro e ww2 ⟨⟨s1', b1', A1', n1', c1', rfl, tb_2⟩, hB2⟩; have a1_2 : ww2.heap[w.heap.size]? = some (.cells #[.int .i64 t, .int .i64 l] 56 (0, 0)) := (by repeat (first | with_reducible exact a1_1 | with_reducible refine blk_below ?_ hB2 | with_reducible refine blk_drew ?_)); have a2_2 : ww2.heap[w.heap.size + 1]? = some (.cells #[.int .i64 0, .bool false, .slice none 0 0, .int .i64 0, .bool false, .slice none 0 0] 51 (0, 0)) := (by repeat (first | with_reducible exact a2_1 | with_reducible refine blk_below ?_ hB2 | with_reducible refine blk_drew ?_)); have ta_2 : RV ww2 s1 b1 A1 n1 c1 t := (by repeat (first | with_reducible exact ta_1 | with_reducible refine RV.below ?_ hB2 | with_reducible refine RV.kp ?_ (Kp.refl _ _).drew)); have HB_2 : Below w.heap.size w ww2 := (by repeat (first | with_reducible exact HB_1 | with_reducible refine bl_then ?_ hB2 | with_reducible refine bl_drew ?_)); have P2 := cx2 (a1_2); have tR : RRV ww2 s1 b1 A1 n1 c1 s1' b1' A1' n1' c1' q := ⟨(by rw [HN.out.1]; exact ta_2), (by rw [HN.out.2]; exact tb_2)⟩; have hE := Lib.hid (putRR tR a2_2 HB_2 (by omega)); obtain ⟨⟨o1, o2, o3, o4, o5, o6⟩, o7, o8, o9, o10, o11, o12⟩ := bx6 a2_2) | (go_at_call_of 76 (Value.int .i64 t); refine (rof_calls t _ (by have := okH.out.2.2; omega) (by have := okH.out.2.2; omega)).mono ?_; rintro e ww1 ⟨⟨s1, b1, A1, n1, c1, rfl, ta_1⟩, hB1⟩; have a1_1 : ww1.heap[w.heap.size]? = some (.cells #[.int .i64 t, .int .i64 l] 56 (0, 0)) := (by repeat (first | with_reducible exact a1_0 | with_reducible refine blk_below ?_ hB1 | with_reducible refine blk_drew ?_)); have a2_1 : ww1.heap[w.heap.size + 1]? = some (.cells #[.int .i64 0, .bool false, .slice none 0 0, .int .i64 0, .bool false, .slice none 0 0] 51 (0, 0)) := (by repeat (first | with_reducible exact a2_0 | with_reducible refine blk_below ?_ hB1 | with_reducible refine blk_drew ?_)); have HB_1 : Below w.heap.size w ww1 := (by repeat (first | with_reducible exact HB_0 | with_reducible refine bl_then ?_ hB1 | with_reducible refine bl_drew ?_)); have P1 := cx2 (a1_1)) | fail)
 all_goals
  go_wp2
  refine bodyPost_ret (results_cell_row rfl _ _ (w.heap.size + 1) 51 #[.int .i64 s1, .bool b1, .slice A1 n1 c1, .int .i64 s1', .bool b1', .slice A1' n1' c1'] (0, 0) _ rfl hE.out.2.2 Tryz.underlying51 rfl (by kernel_rfl)) rfl ?_
  exact ⟨⟨_, _, _, _, _, _, _, _, _, _, rfl, hE.out.1⟩, hE.out.2.1⟩

set_option maxHeartbeats 8000000 in
set_option maxRecDepth 100000 in
theorem rvalid_calls (t l : Int) (w : World) (h0 : -9223372036854775808 ≤ t) (h1 : t ≤ 9223372036854775807) (h2 : -9223372036854775808 ≤ l) (h3 : l ≤ 9223372036854775807) :
  Calls Tryz.prog 112 #[.agg #[.int .i64 t, .int .i64 l]] w fun e w' => e = .returned (.bool (decide (OkN t l))) ∧ Below w.heap.size w w' := by
 by_cases hr : 1 ≤ l ∧ l ≤ 1152921504606846976 ∧ t ≤ 1152921504606846976 ∧ -1152921504606846976 ≤ t
 ·obtain ⟨r1, r2, r3, r4⟩ := hr
  have hgl : (Int.gcd t l : Int) ≤ l := Int.le_of_dvd (by omega) (Int.gcd_dvd_right ..)
  have hg0 : (0 : Int) ≤ (Int.gcd t l : Int) := by omega
  have hd : decide (OkN t l) = (((Int.gcd t l : Int) - 1).sign == 0) := by
   by_cases e : Int.gcd t l = 1
   ·rw [decide_eq_true (show OkN t l from ⟨r1, r2, r3, r4, e⟩), e]; rfl
   ·rw [decide_eq_false (fun h : OkN t l => e h.2.2.2.2)]
    symm
    rw [beq_eq_false_iff_ne]
    intro h
    rw [Int.sign_eq_zero_iff_zero] at h
    omega
  rw [hd]
  clear hd
  generalize hgg : (Int.gcd t l : Int) = gg at *
  have HGG := Lib.hid hgg
  clear hgg
  go_enter Tryz.func112, Tryz.ntmps112
  go_wp2_with fail
  have B0 := bl_alloc (Below.refl w.heap.size w) (.cells #[.int .i64 t, .int .i64 l] 56)
  have a1 : (w.alloc (.cells #[.int .i64 t, .int .i64 l] 56)).heap[w.heap.size]? = some (.cells #[.int .i64 t, .int .i64 l] 56 (0, 0)) := blk_at _ rfl
  generalize w.alloc (.cells #[.int .i64 t, .int .i64 l] 56) = W0 at *
  have a1_0 := a1
  have HB_0 := B0
  obtain ⟨p1, p2, p3, p4⟩ := bx2 a1
  go_upto_region 3 with (fail)
  go_region_held3 (fun W => W.cell? ⟨w.heap.size, 0, none⟩ = some (Value.int .i64 t) ∧ W.cell? ⟨w.heap.size, 1, none⟩ = some (Value.int .i64 l)) (first | with_reducible exact P5 | with_reducible exact P4 | with_reducible exact P3 | with_reducible exact P2 | with_reducible exact P1 | with_reducible exact (cx2 (blk_drew a1_0)) | go_keep) (first | (have _hh := HB_4; go_at_call 111; refine (ricmp_calls s3 b3 A3 n3 c3 gg s4 b4 A4 n4 c4 1 _ (by repeat (first | with_reducible exact tc_4 | with_reducible refine RV.kp ?_ (Kp.refl _ _).drew)) (by repeat (first | with_reducible exact td_4 | with_reducible refine RV.kp ?_ (Kp.refl _ _).drew)) 64 (Sz.small (by omega) (by omega)) (Sz.small (by omega) (by omega)) (by omega)).mono ?_; rintro e ww5 ⟨rfl, hB5⟩; have a1_5 : ww5.heap[w.heap.size]? = some (.cells #[.int .i64 t, .int .i64 l] 56 (0, 0)) := (by repeat (first | with_reducible exact a1_4 | with_reducible refine blk_below ?_ hB5 | with_reducible refine blk_drew ?_)); have ta_5 : RV ww5 s1 b1 A1 n1 c1 t := (by repeat (first | with_reducible exact ta_4 | with_reducible refine RV.below ?_ hB5 | with_reducible refine RV.kp ?_ (Kp.refl _ _).drew)); have tb_5 : RV ww5 s2 b2 A2 n2 c2 l := (by repeat (first | with_reducible exact tb_4 | with_reducible refine RV.below ?_ hB5 | with_reducible refine RV.kp ?_ (Kp.refl _ _).drew)); have tc_5 : RV ww5 s3 b3 A3 n3 c3 gg := (by repeat (first | with_reducible exact tc_4 | with_reducible refine RV.below ?_ hB5 | with_reducible refine RV.kp ?_ (Kp.refl _ _).drew)); have td_5 : RV ww5 s4 b4 A4 n4 c4 1 := (by repeat (first | with_reducible exact td_4 | with_reducible refine RV.below ?_ hB5 | with_reducible refine RV.kp ?_ (Kp.refl _ _).drew)); have HB_5 : Below w.heap.size w ww5 := (by repeat (first | with_reducible exact HB_4 | with_reducible refine bl_then ?_ hB5 | with_reducible refine bl_drew ?_)); have P5 := cx2 (a1_5)) | (have _hh := HB_3; go_at_call 76; refine (rof_calls 1 _ (by omega) (by omega)).mono ?_; rintro e ww4 ⟨⟨s4, b4, A4, n4, c4, rfl, td_4⟩, hB4⟩; have a1_4 : ww4.heap[w.heap.size]? = some (.cells #[.int .i64 t, .int .i64 l] 56 (0, 0)) := (by repeat (first | with_reducible exact a1_3 | with_reducible refine blk_below ?_ hB4 | with_reducible refine blk_drew ?_)); have ta_4 : RV ww4 s1 b1 A1 n1 c1 t := (by repeat (first | with_reducible exact ta_3 | with_reducible refine RV.below ?_ hB4 | with_reducible refine RV.kp ?_ (Kp.refl _ _).drew)); have tb_4 : RV ww4 s2 b2 A2 n2 c2 l := (by repeat (first | with_reducible exact tb_3 | with_reducible refine RV.below ?_ hB4 | with_reducible refine RV.kp ?_ (Kp.refl _ _).drew)); have tc_4 : RV ww4 s3 b3 A3 n3 c3 gg := (by repeat (first | with_reducible exact tc_3 | with_reducible refine RV.below ?_ hB4 | with_reducible refine RV.kp ?_ (Kp.refl _ _).drew)); have HB_4 : Below w.heap.size w ww4 := (by repeat (first | with_reducible exact HB_3 | with_reducible refine bl_then ?_ hB4 | with_reducible refine bl_drew ?_)); have P4 := cx2 (a1_4)) | (have _hh := HB_2; go_at_call 121; refine (rigcd_calls s1 b1 A1 n1 c1 t s2 b2 A2 n2 c2 l _ (by repeat (first | with_reducible exact ta_2 | with_reducible refine RV.kp ?_ (Kp.refl _ _).drew)) (by repeat (first | with_reducible exact tb_2 | with_reducible refine RV.kp ?_ (Kp.refl _ _).drew)) 64 (Sz.small (by omega) (by omega)) (Sz.small (by omega) (by omega)) (by omega)).mono ?_; rintro e ww3 ⟨⟨s3, b3, A3, n3, c3, rfl, tc_3⟩, hB3⟩; rw [HGG.out] at tc_3; have a1_3 : ww3.heap[w.heap.size]? = some (.cells #[.int .i64 t, .int .i64 l] 56 (0, 0)) := (by repeat (first | with_reducible exact a1_2 | with_reducible refine blk_below ?_ hB3 | with_reducible refine blk_drew ?_)); have ta_3 : RV ww3 s1 b1 A1 n1 c1 t := (by repeat (first | with_reducible exact ta_2 | with_reducible refine RV.below ?_ hB3 | with_reducible refine RV.kp ?_ (Kp.refl _ _).drew)); have tb_3 : RV ww3 s2 b2 A2 n2 c2 l := (by repeat (first | with_reducible exact tb_2 | with_reducible refine RV.below ?_ hB3 | with_reducible refine RV.kp ?_ (Kp.refl _ _).drew)); have HB_3 : Below w.heap.size w ww3 := (by repeat (first | with_reducible exact HB_2 | with_reducible refine bl_then ?_ hB3 | with_reducible refine bl_drew ?_)); have P3 := cx2 (a1_3)) | (have _hh := HB_1; go_at_call_of 76 (Value.int .i64 l); refine (rof_calls l _ h2 h3).mono ?_; rintro e ww2 ⟨⟨s2, b2, A2, n2, c2, rfl, tb_2⟩, hB2⟩; have a1_2 : ww2.heap[w.heap.size]? = some (.cells #[.int .i64 t, .int .i64 l] 56 (0, 0)) := (by repeat (first | with_reducible exact a1_1 | with_reducible refine blk_below ?_ hB2 | with_reducible refine blk_drew ?_)); have ta_2 : RV ww2 s1 b1 A1 n1 c1 t := (by repeat (first | with_reducible exact ta_1 | with_reducible refine RV.below ?_ hB2 | with_reducible refine RV.kp ?_ (Kp.refl _ _).drew)); have HB_2 : Below w.heap.size w ww2 := (by repeat (first | with_reducible exact HB_1 | with_reducible refine bl_then ?_ hB2 | with_reducible refine bl_drew ?_)); have P2 := cx2 (a1_2)) | (go_at_call_of 76 (Value.int .i64 t); refine (rof_calls t _ h0 h1).mono ?_; rintro e ww1 ⟨⟨s1, b1, A1, n1, c1, rfl, ta_1⟩, hB1⟩; have a1_1 : ww1.heap[w.heap.size]? = some (.cells #[.int .i64 t, .int .i64 l] 56 (0, 0)) := (by repeat (first | with_reducible exact a1_0 | with_reducible refine blk_below ?_ hB1 | with_reducible refine blk_drew ?_)); have HB_1 : Below w.heap.size w ww1 := (by repeat (first | with_reducible exact HB_0 | with_reducible refine bl_then ?_ hB1 | with_reducible refine bl_drew ?_)); have P1 := cx2 (a1_1)) | fail)
  all_goals
   go_wp2
   go_ret
   exact ⟨rfl, HB_5⟩
 ·have hd : decide (OkN t l) = false := by
   rw [decide_eq_false]
   intro h
   exact hr ⟨h.1, h.2.1, h.2.2.1, h.2.2.2.1⟩
  rw [hd]
  clear hd
  rcases (show l < 1 ∨ 1 ≤ l ∧ 1152921504606846976 < l ∨ 1 ≤ l ∧ l ≤ 1152921504606846976 ∧ 1152921504606846976 < t ∨ 1 ≤ l ∧ l ≤ 1152921504606846976 ∧ t ≤ 1152921504606846976 ∧ t < -1152921504606846976 by omega) with h | ⟨h, h'⟩ | ⟨h, h', h''⟩ | ⟨h, h', h'', h4⟩
  all_goals
   clear hr
   go_enter Tryz.func112, Tryz.ntmps112
   go_wp2
   go_ret
   exact ⟨rfl, bl_alloc (Below.refl _ _) _⟩






end Go.Proofs.YtloplmmnmehkmaaGreat
