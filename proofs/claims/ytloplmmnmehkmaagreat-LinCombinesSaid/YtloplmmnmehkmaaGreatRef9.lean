/- reference: Compare, Abs, Gcd, Small. -/
import Derived.Test.YtloplmmnmehkmaaGreatRef8
import Derived.Deep.RegionWith
set_option linter.unusedVariables false
set_option linter.unusedSimpArgs false
namespace Go.Proofs.YtloplmmnmehkmaaGreat
open Go.RowKit


set_option maxHeartbeats 4000000 in
set_option maxRecDepth 100000 in
theorem ricmp_calls (s1 : Int) (b1 : Bool) (A1 : Option Addr) (n1 c1 : Nat) (x : Int) (s2 : Int) (b2 : Bool) (A2 : Option Addr) (n2 c2 : Nat) (y : Int) (w : World) (h1 : RV w s1 b1 A1 n1 c1 x) (h2 : RV w s2 b2 A2 n2 c2 y) (k : Nat) (z1 : Sz k x) (z2 : Sz k y) (hk : k ≤ 20000000000) :
    Calls Tryz.prog 111 #[.agg #[.int .i64 s1, .bool b1, .slice A1 n1 c1], .agg #[.int .i64 s2, .bool b2, .slice A2 n2 c2]] w fun e w' => e = .returned (.int .i64 (x - y).sign) ∧ Below w.heap.size w w' := by
  go_enter Tryz.func111, Tryz.ntmps111
  go_wp2_with fail
  have B0 := bl_alloc (bl_alloc (Below.refl w.heap.size w) (.cells #[.int .i64 s1, .bool b1, .slice A1 n1 c1] 49)) (.cells #[.int .i64 s2, .bool b2, .slice A2 n2 c2] 49)
  have a1 : ((w.alloc (.cells #[.int .i64 s1, .bool b1, .slice A1 n1 c1] 49)).alloc (.cells #[.int .i64 s2, .bool b2, .slice A2 n2 c2] 49)).heap[w.heap.size]? = some (.cells #[.int .i64 s1, .bool b1, .slice A1 n1 c1] 49 (0, 0)) := blk_alloc (blk_at _ rfl) _
  have a2 : ((w.alloc (.cells #[.int .i64 s1, .bool b1, .slice A1 n1 c1] 49)).alloc (.cells #[.int .i64 s2, .bool b2, .slice A2 n2 c2] 49)).heap[w.heap.size + 1]? = some (.cells #[.int .i64 s2, .bool b2, .slice A2 n2 c2] 49 (0, 0)) := blk_at _ (by simp)
  replace h1 := h1.below B0
  replace h2 := h2.below B0
  generalize (w.alloc (.cells #[.int .i64 s1, .bool b1, .slice A1 n1 c1] 49)).alloc (.cells #[.int .i64 s2, .bool b2, .slice A2 n2 c2] 49) = W0 at *
  refine (rless_calls s1 b1 A1 n1 c1 x s2 b2 A2 n2 c2 y _ h1 h2 k z1 z2 hk).mono ?_
  rintro e w1 ⟨⟨s, b, A, n, c, rfl, h3⟩, hB1⟩
  replace B0 := bl_then B0 hB1
  go_wp2_with fail
  refine (rsign_int_calls s b A n c (x - y) _ h3).mono ?_
  rintro e w2 ⟨rfl, hB2⟩
  replace B0 := bl_then B0 hB2
  go_wp2
  go_ret
  exact ⟨rfl, B0⟩

set_option maxHeartbeats 4000000 in
set_option maxRecDepth 100000 in
theorem riabs_calls (s1 : Int) (b1 : Bool) (A1 : Option Addr) (n1 c1 : Nat) (x : Int) (w : World) (h1 : RV w s1 b1 A1 n1 c1 x) :
    Calls Tryz.prog 145 #[.agg #[.int .i64 s1, .bool b1, .slice A1 n1 c1]] w fun e w' => RIntR e w' (x.natAbs : Int) ∧ Below w.heap.size w w' := by
  generalize hab : (x.natAbs : Int) = ab
  have HAB := Lib.hid hab
  clear hab
  go_enter Tryz.func145, Tryz.ntmps145
  go_wp2_with fail
  have B0 := bl_alloc (bl_alloc (Below.refl w.heap.size w) (.cells #[.int .i64 s1, .bool b1, .slice A1 n1 c1] 49)) (.cells #[.int .i64 0, .bool false, .slice none 0 0] 49)
  have a1 : ((w.alloc (.cells #[.int .i64 s1, .bool b1, .slice A1 n1 c1] 49)).alloc (.cells #[.int .i64 0, .bool false, .slice none 0 0] 49)).heap[w.heap.size]? = some (.cells #[.int .i64 s1, .bool b1, .slice A1 n1 c1] 49 (0, 0)) := blk_alloc (blk_at _ rfl) _
  have a2 : ((w.alloc (.cells #[.int .i64 s1, .bool b1, .slice A1 n1 c1] 49)).alloc (.cells #[.int .i64 0, .bool false, .slice none 0 0] 49)).heap[w.heap.size + 1]? = some (.cells #[.int .i64 0, .bool false, .slice none 0 0] 49 (0, 0)) := blk_at _ (by simp)
  replace h1 := h1.below B0
  generalize (w.alloc (.cells #[.int .i64 s1, .bool b1, .slice A1 n1 c1] 49)).alloc (.cells #[.int .i64 0, .bool false, .slice none 0 0] 49) = W0 at *
  refine (rsign_int_calls s1 b1 A1 n1 c1 x _ h1).mono ?_
  rintro e w1 ⟨rfl, hB1⟩
  replace a1 := blk_below a1 hB1
  replace a2 := blk_below a2 hB1
  replace h1 := h1.below hB1
  replace B0 := bl_then B0 hB1
  clear hB1
  obtain ⟨⟨p1, p2, p3⟩, p4, p5, p6⟩ := bx3 a1
  by_cases hx : x.sign < 0
  · have hx' : x < 0 := Int.sign_neg_iff.1 hx
    generalize x.sign = sx at *
    go_wp2_with fail
    refine (rminus_calls s1 b1 A1 n1 c1 x _ h1).mono ?_
    rintro e w2 ⟨rfl, hB2⟩
    have h3 := (h1.below hB2).neg
    replace a2 := blk_below a2 hB2
    replace B0 := bl_then B0 hB2
    clear hB2 p1 p2 p3 p4 p5 p6 a1
    have hE := Lib.hid (putR h3 a2 B0 (by omega))
    obtain ⟨⟨z1, z2, z3⟩, z4, z5, z6⟩ := bx3 a2
    go_wp2
    refine bodyPost_ret (results_cell_row rfl _ _ (w.heap.size + 1) 49 #[.int .i64 (-s1), .bool (decide (0 < n1) && !b1), .slice A1 n1 c1] (0, 0) _ rfl hE.out.2.2 Tryz.underlying49 rfl (by kernel_rfl)) rfl ?_
    exact ⟨⟨_, _, _, _, _, rfl, by rw [← HAB.out, show (x.natAbs : Int) = -x by omega]; exact hE.out.1⟩, hE.out.2.1⟩
  · have hx' : 0 ≤ x := by rw [Int.sign_neg_iff] at hx; omega
    generalize x.sign = sx at *
    have hE := Lib.hid (putR h1 a2 B0 (by omega))
    obtain ⟨⟨z1, z2, z3⟩, z4, z5, z6⟩ := bx3 a2
    go_wp2
    refine bodyPost_ret (results_cell_row rfl _ _ (w.heap.size + 1) 49 #[.int .i64 s1, .bool b1, .slice A1 n1 c1] (0, 0) _ rfl hE.out.2.2 Tryz.underlying49 rfl (by kernel_rfl)) rfl ?_
    exact ⟨⟨_, _, _, _, _, rfl, by rw [← HAB.out, show (x.natAbs : Int) = x by omega]; exact hE.out.1⟩, hE.out.2.1⟩

set_option maxHeartbeats 800000 in
theorem small_yes (s : Int) (b : Bool) (A : Option Addr) (n c : Nat) (x : Int) (w : World) (h : RV w s b A n c x) (h0 : -1152921504606846976 ≤ x) (h1 : x ≤ 1152921504606846976) :
    Calls Tryz.prog 74 #[.agg #[.int .i64 s, .bool b, .slice A n c]] w fun e w' => e = .returned (.tuple #[.int .i64 x, .bool true]) ∧ Below w.heap.size w w' := by
  rcases h with ⟨rfl, rfl, rfl, rfl, rfl, l0, l1⟩ | ⟨hn, hc, rfl, ds, hr, kd, ht, hb, hx⟩
  · have d1 : ¬ 1152921504606846976 < s := by omega
    have d2 : ¬ s < -1152921504606846976 := by omega
    go_enter Tryz.func74, Tryz.ntmps74
    go_wp2
    go_ret2
    exact ⟨rfl, bl_alloc (Below.refl _ _) _⟩
  · exfalso
    cases b <;> simp at hx <;> omega
set_option maxHeartbeats 800000 in
theorem small_no (s : Int) (b : Bool) (A : Option Addr) (n c : Nat) (x : Int) (w : World) (h : RV w s b A n c x) (h0 : x < -1152921504606846976 ∨ 1152921504606846976 < x) :
    Calls Tryz.prog 74 #[.agg #[.int .i64 s, .bool b, .slice A n c]] w fun e w' => e = .returned (.tuple #[.int .i64 0, .bool false]) ∧ Below w.heap.size w w' := by
  rcases h with ⟨rfl, rfl, rfl, rfl, rfl, l0, l1⟩ | ⟨hn, hc, rfl, ds, hr, kd, ht, hb, hx⟩
  · by_cases d : 1152921504606846976 < s
    · go_enter Tryz.func74, Tryz.ntmps74
      go_wp2
      go_ret2
      exact ⟨rfl, bl_alloc (Below.refl _ _) _⟩
    · have d2 : s < -1152921504606846976 := by omega
      go_enter Tryz.func74, Tryz.ntmps74
      go_wp2
      go_ret2
      exact ⟨rfl, bl_alloc (Below.refl _ _) _⟩
  · have hp : (0 : Int) < (n : Int) := by omega
    clear hx hb ht kd hr h0
    go_enter Tryz.func74, Tryz.ntmps74
    go_wp2
    go_ret2
    exact ⟨rfl, bl_alloc (Below.refl _ _) _⟩

theorem put3R {w W : World} {s : Int} {b : Bool} {A : Option Addr} {n c : Nat} {x : Int} {s' : Int} {b' : Bool} {A' : Option Addr} {n' c' : Nat} {x' : Int} {g g' : Nat} {o : Obj} {k : Nat} {a1 a2 a3 d1 d2 d3 : Value} (h : RV W s b A n c x) (h' : RV W s' b' A' n' c' x')
    (hb : W.heap[g]? = some (.cells #[a1, a2, a3] 49 (0, 0))) (hb' : W.heap[g']? = some (.cells #[d1, d2, d3] 49 (0, 0))) (hr : W.heap[k]? = some o) (hB : Below w.heap.size w W) (hg : w.heap.size ≤ g) (hg' : w.heap.size ≤ g') (hn : g ≠ g') (hk : k ≠ g) (hk' : k ≠ g') :
    let W' := (((((W.setCell ⟨g, 0, none⟩ (.int .i64 s)).setCell ⟨g, 1, none⟩ (.bool b)).setCell ⟨g, 2, none⟩ (.slice A n c)).setCell ⟨g', 0, none⟩ (.int .i64 s')).setCell ⟨g', 1, none⟩ (.bool b')).setCell ⟨g', 2, none⟩ (.slice A' n' c')
    RV W' s b A n c x ∧ RV W' s' b' A' n' c' x' ∧ W'.heap[g]? = some (.cells #[.int .i64 s, .bool b, .slice A n c] 49 (0, 0)) ∧ W'.heap[g']? = some (.cells #[.int .i64 s', .bool b', .slice A' n' c'] 49 (0, 0)) ∧ W'.heap[k]? = some o ∧ Below w.heap.size w W' := by
  have k1 := kp_set3 hb (.int .i64 s) (.bool b) (.slice A n c)
  have hb2 := blk_far3 hb' (fun e => hn e.symm) (.int .i64 s) (.bool b) (.slice A n c)
  have k2 := kp_set3 hb2 (.int .i64 s') (.bool b') (.slice A' n' c')
  exact ⟨(h.kp k1).kp k2, (h'.kp k1).kp k2, blk_far3 (blk_set3 hb _ _ _) hn _ _ _, blk_set3 hb2 _ _ _, blk_far3 (blk_far3 hr hk _ _ _) hk' _ _ _, bl_set3 (bl_set3 hB hg _ _ _) hg' _ _ _⟩
theorem put3Rd {w W : World} {s : Int} {b : Bool} {A : Option Addr} {n c : Nat} {x : Int} {s' : Int} {b' : Bool} {A' : Option Addr} {n' c' : Nat} {x' : Int} {g g' : Nat} {o : Obj} {k : Nat} {a1 a2 a3 d1 d2 d3 : Value} (h : RV W s b A n c x) (h' : RV W s' b' A' n' c' x')
    (hb : W.heap[g]? = some (.cells #[a1, a2, a3] 49 (0, 0))) (hb' : W.heap[g']? = some (.cells #[d1, d2, d3] 49 (0, 0))) (hr : W.heap[k]? = some o) (hB : Below w.heap.size w W) (hg : w.heap.size ≤ g) (hg' : w.heap.size ≤ g') (hn : g ≠ g') (hk : k ≠ g) (hk' : k ≠ g') :
    let W' := ((((((W.setCell ⟨g, 0, none⟩ (.int .i64 s)).setCell ⟨g, 1, none⟩ (.bool b)).setCell ⟨g, 2, none⟩ (.slice A n c)).setCell ⟨g', 0, none⟩ (.int .i64 s')).setCell ⟨g', 1, none⟩ (.bool b')).setCell ⟨g', 2, none⟩ (.slice A' n' c')).drew
    RV W' s b A n c x ∧ RV W' s' b' A' n' c' x' ∧ W'.heap[g]? = some (.cells #[.int .i64 s, .bool b, .slice A n c] 49 (0, 0)) ∧ W'.heap[g']? = some (.cells #[.int .i64 s', .bool b', .slice A' n' c'] 49 (0, 0)) ∧ W'.heap[k]? = some o ∧ Below w.heap.size w W' := by
  obtain ⟨e1, e2, e3, e4, e5, e6⟩ := put3R h h' hb hb' hr hB hg hg' hn hk hk'
  exact ⟨e1.kp (Kp.refl _ _).drew, e2.kp (Kp.refl _ _).drew, blk_drew e3, blk_drew e4, blk_drew e5, bl_drew e6⟩
theorem gcd_step (x y : Int) : Int.gcd y (x.tmod y) = Int.gcd x y := by
  unfold Int.gcd
  rw [Int.natAbs_tmod, Nat.gcd_comm x.natAbs, Nat.gcd_rec y.natAbs x.natAbs, Nat.gcd_comm]
set_option maxHeartbeats 8000000 in
set_option maxRecDepth 100000 in
theorem rigcd_calls (s1 : Int) (b1 : Bool) (A1 : Option Addr) (n1 c1 : Nat) (x : Int) (s2 : Int) (b2 : Bool) (A2 : Option Addr) (n2 c2 : Nat) (y : Int) (w : World) (h1 : RV w s1 b1 A1 n1 c1 x) (h2 : RV w s2 b2 A2 n2 c2 y) (k : Nat) (z1 : Sz k x) (z2 : Sz k y) (hk : k ≤ 20000000000) :
    Calls Tryz.prog 121 #[.agg #[.int .i64 s1, .bool b1, .slice A1 n1 c1], .agg #[.int .i64 s2, .bool b2, .slice A2 n2 c2]] w fun e w' => RIntR e w' (Int.gcd x y : Int) ∧ Below w.heap.size w w' := by
  generalize hgg : ((Int.gcd x y : Nat) : Int) = gg at *
  go_enter Tryz.func121, Tryz.ntmps121
  go_wp2_with fail
  have B0 := bl_alloc (bl_alloc (bl_alloc (Below.refl w.heap.size w) (.cells #[.int .i64 s1, .bool b1, .slice A1 n1 c1] 49)) (.cells #[.int .i64 s2, .bool b2, .slice A2 n2 c2] 49)) (.cells #[.int .i64 0, .bool false, .slice none 0 0] 49)
  have a1 : (((w.alloc (.cells #[.int .i64 s1, .bool b1, .slice A1 n1 c1] 49)).alloc (.cells #[.int .i64 s2, .bool b2, .slice A2 n2 c2] 49)).alloc (.cells #[.int .i64 0, .bool false, .slice none 0 0] 49)).heap[w.heap.size]? = some (.cells #[.int .i64 s1, .bool b1, .slice A1 n1 c1] 49 (0, 0)) := blk_alloc (blk_alloc (blk_at _ rfl) _) _
  have a2 : (((w.alloc (.cells #[.int .i64 s1, .bool b1, .slice A1 n1 c1] 49)).alloc (.cells #[.int .i64 s2, .bool b2, .slice A2 n2 c2] 49)).alloc (.cells #[.int .i64 0, .bool false, .slice none 0 0] 49)).heap[w.heap.size + 1]? = some (.cells #[.int .i64 s2, .bool b2, .slice A2 n2 c2] 49 (0, 0)) := blk_alloc (blk_at _ (by simp)) _
  have a3 : (((w.alloc (.cells #[.int .i64 s1, .bool b1, .slice A1 n1 c1] 49)).alloc (.cells #[.int .i64 s2, .bool b2, .slice A2 n2 c2] 49)).alloc (.cells #[.int .i64 0, .bool false, .slice none 0 0] 49)).heap[w.heap.size + 1 + 1]? = some (.cells #[.int .i64 0, .bool false, .slice none 0 0] 49 (0, 0)) := blk_at _ (by simp)
  replace h1 := h1.below B0
  replace h2 := h2.below B0
  generalize ((w.alloc (.cells #[.int .i64 s1, .bool b1, .slice A1 n1 c1] 49)).alloc (.cells #[.int .i64 s2, .bool b2, .slice A2 n2 c2] 49)).alloc (.cells #[.int .i64 0, .bool false, .slice none 0 0] 49) = W0 at *
  go_loopg [] y.natAbs (fun gk wr => ∃ (s3 : Int) (b3 : Bool) (A3 : Option Addr) (n3 c3 : Nat) (s4 : Int) (b4 : Bool) (A4 : Option Addr) (n4 c4 : Nat) (x1 y1 : Int), y1.natAbs = gk ∧ RV wr s3 b3 A3 n3 c3 x1 ∧ RV wr s4 b4 A4 n4 c4 y1 ∧ ((Int.gcd x1 y1 : Nat) : Int) = gg ∧ Sz k x1 ∧ Sz k y1 ∧ wr.heap[w.heap.size]? = some (.cells #[.int .i64 s3, .bool b3, .slice A3 n3 c3] 49 (0, 0)) ∧ wr.heap[w.heap.size + 1]? = some (.cells #[.int .i64 s4, .bool b4, .slice A4 n4 c4] 49 (0, 0)) ∧ wr.heap[w.heap.size + 1 + 1]? = some (.cells #[.int .i64 0, .bool false, .slice none 0 0] 49 (0, 0)) ∧ Below w.heap.size w wr)
  case atStart => exact ⟨s1, b1, A1, n1, c1, s2, b2, A2, n2, c2, x, y, rfl, h1, h2, hgg, z1, z2, a1, a2, a3, B0⟩
  case round =>
    clear h1 h2 a1 a2 a3 B0 z1 z2 hgg
    obtain ⟨s3, b3, A3, n3, c3, s4, b4, A4, n4, c4, x1, y1, hy1, hIa, hIb, hg, sx, sy, ha, hb, hr, HB⟩ := hrel
    obtain ⟨⟨p1, p2, p3⟩, p4, p5, p6⟩ := bx3 hb
    go_wp2_with fail
    refine (rsign_int_calls s4 b4 A4 n4 c4 y1 _ hIb).mono ?_
    rintro e w1 ⟨rfl, hB1⟩
    replace hIa := hIa.below hB1
    replace hIb := hIb.below hB1
    replace ha := blk_below ha hB1
    replace hb := blk_below hb hB1
    replace hr := blk_below hr hB1
    replace HB := bl_then HB hB1
    clear hB1 p1 p2 p3 p4 p5 p6
    by_cases h0 : y1 = 0
    · have e0 : y1.sign = 0 := by rw [h0]; rfl
      have hgx : (x1.natAbs : Int) = gg := by rw [← hg, h0]; simp [Int.gcd]
      have HGX := Lib.hid hgx
      rw [e0]
      clear e0 hg hy1 hgx h0
      obtain ⟨⟨p1, p2, p3⟩, p4, p5, p6⟩ := bx3 ha
      go_wp2_with fail
      refine (riabs_calls s3 b3 A3 n3 c3 x1 _ hIa).mono ?_
      rintro e w2 ⟨⟨s, b, A, n, c, rfl, h3⟩, hB2⟩
      rw [HGX.out] at h3
      replace hr := blk_below hr hB2
      replace HB := bl_then HB hB2
      clear hB2 p1 p2 p3 p4 p5 p6 ha hb hIa hIb
      have hE := Lib.hid (putR h3 hr HB (by omega))
      obtain ⟨⟨q1, q2, q3⟩, q4, q5, q6⟩ := bx3 hr
      go_wp2
      refine bodyPost_ret (results_cell_row rfl _ _ (w.heap.size + 1 + 1) 49 #[.int .i64 s, .bool b, .slice A n c] (0, 0) _ rfl hE.out.2.2 Tryz.underlying49 rfl (by kernel_rfl)) rfl ?_
      exact ⟨⟨_, _, _, _, _, rfl, hE.out.1⟩, hE.out.2.1⟩
    · have e0 : (y1.sign != 0) = true := by simp [Int.sign_eq_zero_iff_zero, h0]
      replace h0 := Lib.hid h0
      have HY1 := Lib.hid hy1
      have HG := Lib.hid hg
      clear hy1 hg
      generalize y1.sign = sg at *
      obtain ⟨⟨p1, p2, p3⟩, p4, p5, p6⟩ := bx3 ha
      obtain ⟨⟨q1, q2, q3⟩, q4, q5, q6⟩ := bx3 hb
      go_wp2_with fail
      refine (rover_calls s3 b3 A3 n3 c3 x1 s4 b4 A4 n4 c4 y1 _ hIa hIb k sx sy hk h0.out).mono ?_
      rintro e w2 ⟨⟨s, b, A, n, c, s', b', A', n', c', rfl, hQ, hR⟩, hB2⟩
      replace ha := blk_below ha hB2
      replace hb := blk_below hb hB2
      replace hr := blk_below hr hB2
      replace hIb := hIb.below hB2
      replace HB := bl_then HB hB2
      clear hB2 p1 p2 p3 p4 p5 p6 q1 q2 q3 q4 q5 q6 hIa hQ e0
      have hgr : ((Int.gcd y1 (x1.tmod y1) : Nat) : Int) = gg := by rw [gcd_step]; exact HG.out
      have hlt : (x1.tmod y1).natAbs < gk := by
        rw [Int.natAbs_tmod, ← HY1.out]
        exact Nat.mod_lt _ (by have := h0.out; omega)
      have sr : Sz k (x1.tmod y1) := sy.le (by rw [Int.natAbs_tmod]; exact Nat.le_of_lt (Nat.mod_lt _ (by have := h0.out; omega)))
      have HGR := Lib.hid hgr
      clear hgr
      generalize x1.tmod y1 = r1 at *
      have hbr : ((w2.alloc (.cells #[.int .i64 s, .bool b, .slice A n c] 49)).alloc (.cells #[.int .i64 s', .bool b', .slice A' n' c'] 49)).heap[w2.heap.size + 1]? = some (.cells #[.int .i64 s', .bool b', .slice A' n' c'] 49 (0, 0)) := blk_at _ (by simp)
      have hlt2 := HB.size
      have hlr := blk_lt hr
      replace ha := blk_alloc (blk_alloc ha (.cells #[.int .i64 s, .bool b, .slice A n c] 49)) (.cells #[.int .i64 s', .bool b', .slice A' n' c'] 49)
      replace hb := blk_alloc (blk_alloc hb (.cells #[.int .i64 s, .bool b, .slice A n c] 49)) (.cells #[.int .i64 s', .bool b', .slice A' n' c'] 49)
      replace hr := blk_alloc (blk_alloc hr (.cells #[.int .i64 s, .bool b, .slice A n c] 49)) (.cells #[.int .i64 s', .bool b', .slice A' n' c'] 49)
      replace HB := bl_alloc (bl_alloc HB (.cells #[.int .i64 s, .bool b, .slice A n c] 49)) (.cells #[.int .i64 s', .bool b', .slice A' n' c'] 49)
      replace hIb := hIb.kp (((Kp.refl _ _).alloc (.cells #[.int .i64 s, .bool b, .slice A n c] 49)).alloc (.cells #[.int .i64 s', .bool b', .slice A' n' c'] 49))
      replace hR := hR.kp (((Kp.refl _ _).alloc (.cells #[.int .i64 s, .bool b, .slice A n c] 49)).alloc (.cells #[.int .i64 s', .bool b', .slice A' n' c'] 49))
      obtain ⟨⟨p1, p2, p3⟩, p4, p5, p6⟩ := bx3 ha
      obtain ⟨⟨q1, q2, q3⟩, q4, q5, q6⟩ := bx3 hb
      obtain ⟨⟨t1, t2, t3⟩, t4, t5, t6⟩ := bx3 hbr
      have hE := Lib.hid (put3Rd hIb hR ha hb hr HB (by omega) (by omega) (by omega) (by omega) (by omega))
      clear hIb hR HB ha hb hr
      go_wp2_with fail
      go_region
      all_goals
        clear p1 p2 p3 p4 p5 p6 q1 q2 q3 q4 q5 q6 t1 t2 t3 t4 t5 t6
        go_wp2
        go_roundg r1.natAbs
        case measure => exact hlt
        case rel =>
          obtain ⟨U1, U2, U3, U4, U5, U6⟩ := hE.out
          with_reducible exact ⟨s4, b4, A4, n4, c4, s', b', A', n', c', y1, r1, rfl, U1, U2, HGR.out, sy, sr, U3, U4, U5, U6⟩
end Go.Proofs.YtloplmmnmehkmaaGreat
