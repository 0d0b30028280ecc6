/- lin: Equal, Same. lin: Equal, alike, Same. lin: Same; LinSolutions: zero. Solutions of equations: plain law. Solutions of equations: what the law compares. LinSolutions: few, the walk. -/
import Derived.Test.YtloplmmnmehkmaaGreatRefA
set_option linter.unusedVariables false
set_option linter.unusedSimpArgs false
namespace Go.Proofs.YtloplmmnmehkmaaGreat
open Go.RowKit

theorem num_sub_zero (a b : Rat) : ((a - b).num.sign = 0) ↔ a = b := by
  rw [num_sign_zero]
  constructor
  · intro h; grind
  · intro h; rw [h]; grind
set_option maxHeartbeats 40000000
set_option maxRecDepth 100000
theorem leqrat_calls (x y : RC) (q r : Rat) (w : World) (hx : x.Is w q) (hy : y.Is w r) (k : Nat) (s1 : SzR k q) (s2 : SzR k r) (hk : k ≤ 10000000000) :
    Calls Tryz.prog 110 #[.agg #[.int .i64 x.v, .slice x.A x.n x.c, .int .i64 x.v', .slice x.A' x.n' x.c'], .agg #[.int .i64 y.v, .slice y.A y.n y.c, .int .i64 y.v', .slice y.A' y.n' y.c']] w fun e w' => e = .returned (.bool (decide (q = r))) ∧ Below w.heap.size w w' := by
  have HN := Lib.hid (num_sub_zero q r)
  generalize hD : decide (q = r) = D
  have HD := Lib.hid hD
  clear hD
  go_enter Tryz.func110, Tryz.ntmps110
  have B0 := bl_alloc (bl_alloc (Below.refl w.heap.size w) (.cells #[.int .i64 x.v, .slice x.A x.n x.c, .int .i64 x.v', .slice x.A' x.n' x.c'] 88)) (.cells #[.int .i64 y.v, .slice y.A y.n y.c, .int .i64 y.v', .slice y.A' y.n' y.c'] 88)
  obtain ⟨⟨f1, f2, f3, f4⟩, f5⟩ := bx4 (blk_alloc (blk_at (W := w) (.cells #[.int .i64 x.v, .slice x.A x.n x.c, .int .i64 x.v', .slice x.A' x.n' x.c'] 88) rfl) (.cells #[.int .i64 y.v, .slice y.A y.n y.c, .int .i64 y.v', .slice y.A' y.n' y.c'] 88))
  go_wp2_with fail
  refine (rcmp_calls x.v x.A x.n x.c x.v' x.A' x.n' x.c' q y.v y.A y.n y.c y.v' y.A' y.n' y.c' r _ (RatV.below hx B0) (RatV.below hy B0) k s1 s2 hk).mono ?_
  rintro e w1 ⟨rfl, hB1⟩
  have B1 := bl_then B0 hB1
  clear f1 f2 f3 f4 f5 B0 hB1
  by_cases he : q = r
  · have hd := HD.out
    rw [decide_eq_true he] at hd
    subst hd
    rw [HN.out.2 he]
    go_wp2
    go_ret
    exact ⟨rfl, B1⟩
  · have hs : ((q - r).num.sign == 0) = false := by
      have : ¬ (q - r).num.sign = 0 := fun h => he (HN.out.1 h)
      simpa using this
    have hs2 : decide ((q - r).num.sign = 0) = false := decide_eq_false fun h => he (HN.out.1 h)
    have hd := HD.out
    rw [decide_eq_false he] at hd
    subst hd
    generalize (q - r).num.sign = sg at *
    go_wp2
    go_ret
    exact ⟨by first | rfl | simp [hs] | simp [hs2], B1⟩
/-- A box of a rational is laid by an alloc; the comparison of two lists of rationals. -/
theorem leqrats_calls (A : Option Addr) (n c : Nat) (A' : Option Addr) (n' c' : Nat) (X Y : List Rat) (w : World) (h : RdQ w A n X) (h' : RdQ w A' n' Y) (k : Nat) (s1 : ∀ j, SzR k (X.getD j 0)) (s2 : ∀ j, SzR k (Y.getD j 0)) (hk : k ≤ 10000000000) :
    Calls Tryz.prog 109 #[.slice A n c, .slice A' n' c', .func (.func 110) #[] #[]] w fun e w' => e = .returned (.bool (decide (X = Y))) ∧ Below w.heap.size w w' := by
  have L1 := Lib.hid h.1
  have L2 := Lib.hid h'.1
  have hn := h.2.1
  have hn' := h'.2.1
  have HS1 := Lib.hid s1
  have HS2 := Lib.hid s2
  generalize hD : decide (X = Y) = D
  have HD := Lib.hid hD
  clear hD s1 s2
  go_enter Tryz.func109, Tryz.ntmps109
  by_cases hl : n = n'
  · subst hl
    have d1 : ((n : Int) != (n : Int)) = false := by simp
    go_wp2_with fail
    go_loopw [17] (fun i wr => ∃ kk : Nat, kk ≤ n ∧ i = .int .i64 kk ∧ (∀ j, j < kk → X.getD j 0 = Y.getD j 0) ∧ Below w.heap.size w wr) (fun i _ => n - (intOf i).toNat)
    case atStart => exact ⟨0, Nat.zero_le _, rfl, fun j hj => absurd hj (by omega), Below.refl _ _⟩
    case round =>
      obtain ⟨kk, hkk, rfl, hall, B0⟩ := hrel
      have HALL := Lib.hid hall
      clear hall
      by_cases hlt : kk < n
      · obtain ⟨g, off, rfl, hg, hc⟩ := (h.below B0).2.2.1 (by omega)
        obtain ⟨x, ⟨p1, p2, p3, p4⟩, hx0⟩ := hc kk hlt
        obtain ⟨g', off', rfl, hg', hc'⟩ := (h'.below B0).2.2.1 (by omega)
        obtain ⟨y, ay, hy0⟩ := hc' kk hlt
        have S1 := Lib.hid (HS1.out kk)
        have S2 := Lib.hid (HS2.out kk)
        clear hc hc' h h'
        generalize hx : X.getD kk 0 = q at *
        generalize hy : Y.getD kk 0 = r at *
        have HX := Lib.hid hx
        have HY := Lib.hid hy
        clear hx hy
        have ay2 := At4.al ay hg' (.cells #[.int .i64 x.v, .slice x.A x.n x.c, .int .i64 x.v', .slice x.A' x.n' x.c'] 88)
        obtain ⟨q1, q2, q3, q4⟩ := at4c ay2
        have ax := blk_alloc (blk_at (W := wr) (.cells #[.int .i64 x.v, .slice x.A x.n x.c, .int .i64 x.v', .slice x.A' x.n' x.c'] 88) rfl) (.cells #[.int .i64 y.v, .slice y.A y.n y.c, .int .i64 y.v', .slice y.A' y.n' y.c'] 88)
        obtain ⟨⟨x1, x2, x3, x4⟩, x5⟩ := bx4 ax
        have B1 := bl_alloc (bl_alloc B0 (.cells #[.int .i64 x.v, .slice x.A x.n x.c, .int .i64 x.v', .slice x.A' x.n' x.c'] 88)) (.cells #[.int .i64 y.v, .slice y.A y.n y.c, .int .i64 y.v', .slice y.A' y.n' y.c'] 88)
        have hk0 : (0 : Int) ≤ (kk : Int) := by omega
        have hkn : (kk : Int) < (n : Int) := by omega
        go_wp2_with fail
        refine (leqrat_calls x y q r _ (RatV.al (RatV.al hx0 _) _) (RatV.al (RatV.al hy0 _) _) k S1.out S2.out hk).mono ?_
        rintro e w1 ⟨he, hB1⟩
        replace B1 := bl_then B1 hB1
        clear p1 p2 p3 p4 q1 q2 q3 q4 x1 x2 x3 x4 x5 ax ay ay2 hx0 hy0 hB1 hg hg'
        by_cases hqr : q = r
        · rw [decide_eq_true hqr] at he
          subst he
          have HQR := Lib.hid hqr
          clear hqr
          go_wp2
          go_roundw
          case rel =>
            refine ⟨kk + 1, hlt, by go_num, ?_, B1⟩
            intro j hj
            rcases Nat.lt_or_ge j kk with h1 | h1
            · exact HALL.out j h1
            · have : j = kk := by omega
              subst this
              rw [HX.out, HY.out]; exact HQR.out
          case measure => simp [intOf]; omega
        · rw [decide_eq_false hqr] at he
          subst he
          have hd := HD.out
          rw [decide_eq_false (fun e => hqr (by rw [← HX.out, ← HY.out, e]))] at hd
          subst hd
          go_wp2
          go_ret
          exact ⟨rfl, B1⟩
      · have hd := HD.out
        rw [decide_eq_true (show X = Y from by
          apply List.ext_getElem?
          intro j
          rcases Nat.lt_or_ge j n with hj | hj
          · have := HALL.out j (by omega)
            rw [List.getD_eq_getElem?_getD, List.getD_eq_getElem?_getD, List.getElem?_eq_getElem (by rw [L1.out]; exact hj), List.getElem?_eq_getElem (by rw [L2.out]; exact hj)] at this
            rw [List.getElem?_eq_getElem (by rw [L1.out]; exact hj), List.getElem?_eq_getElem (by rw [L2.out]; exact hj)]
            exact congrArg some this
          · rw [List.getElem?_eq_none (by rw [L1.out]; exact hj), List.getElem?_eq_none (by rw [L2.out]; exact hj)])] at hd
        subst hd
        go_wp2
        go_ret
        exact ⟨rfl, B0⟩
  · have hd := HD.out
    rw [decide_eq_false (fun e => hl (by rw [← L1.out, ← L2.out, e]))] at hd
    subst hd
    have d1 : ((n : Int) != (n' : Int)) = true := by simp; omega
    go_wp2
    go_ret
    exact ⟨rfl, Below.refl _ _⟩
end Go.Proofs.YtloplmmnmehkmaaGreat

namespace Go.Proofs.YtloplmmnmehkmaaGreat
open Go.RowKit

set_option maxHeartbeats 40000000
set_option maxRecDepth 100000
theorem lequal_calls (A1 : Option Addr) (n1 c1 : Nat) (x1 : RC) (b1 : Bool) (r1 : Rw) (A2 : Option Addr) (n2 c2 : Nat) (x2 : RC) (b2 : Bool) (r2 : Rw) (w : World) (h1 : RwV w A1 n1 x1 r1) (h2 : RwV w A2 n2 x2 r2) (k : Nat) (s1 : SzW k r1) (s2 : SzW k r2) (hk : k ≤ 10000000000) :
    Calls Tryz.prog 58 #[.agg #[.slice A1 n1 c1, .int .i64 x1.v, .slice x1.A x1.n x1.c, .int .i64 x1.v', .slice x1.A' x1.n' x1.c', .bool b1], .agg #[.slice A2 n2 c2, .int .i64 x2.v, .slice x2.A x2.n x2.c, .int .i64 x2.v', .slice x2.A' x2.n' x2.c', .bool b2]] w fun e w' => e = .returned (.bool (decide (r1 = r2))) ∧ Below w.heap.size w w' := by
  have HN := Lib.hid (num_sub_zero r1.2 r2.2)
  have HS1 := Lib.hid s1
  have HS2 := Lib.hid s2
  have HE : Hid ((r1 = r2) ↔ (r1.2 = r2.2 ∧ r1.1 = r2.1)) := Lib.hid ⟨fun e => ⟨by rw [e], by rw [e]⟩, fun e => Prod.ext e.2 e.1⟩
  generalize hD : decide (r1 = r2) = D
  have HD := Lib.hid hD
  clear hD s1 s2
  go_enter Tryz.func58, Tryz.ntmps58
  have B0 := bl_alloc (bl_alloc (Below.refl w.heap.size w) (.cells #[.slice A1 n1 c1, .int .i64 x1.v, .slice x1.A x1.n x1.c, .int .i64 x1.v', .slice x1.A' x1.n' x1.c', .bool b1] 90)) (.cells #[.slice A2 n2 c2, .int .i64 x2.v, .slice x2.A x2.n x2.c, .int .i64 x2.v', .slice x2.A' x2.n' x2.c', .bool b2] 90)
  have a1 := blk_alloc (blk_at (W := w) (.cells #[.slice A1 n1 c1, .int .i64 x1.v, .slice x1.A x1.n x1.c, .int .i64 x1.v', .slice x1.A' x1.n' x1.c', .bool b1] 90) rfl) (.cells #[.slice A2 n2 c2, .int .i64 x2.v, .slice x2.A x2.n x2.c, .int .i64 x2.v', .slice x2.A' x2.n' x2.c', .bool b2] 90)
  have a2 : ((w.alloc (.cells #[.slice A1 n1 c1, .int .i64 x1.v, .slice x1.A x1.n x1.c, .int .i64 x1.v', .slice x1.A' x1.n' x1.c', .bool b1] 90)).alloc (.cells #[.slice A2 n2 c2, .int .i64 x2.v, .slice x2.A x2.n x2.c, .int .i64 x2.v', .slice x2.A' x2.n' x2.c', .bool b2] 90)).heap[w.heap.size + 1]? = some (.cells #[.slice A2 n2 c2, .int .i64 x2.v, .slice x2.A x2.n x2.c, .int .i64 x2.v', .slice x2.A' x2.n' x2.c', .bool b2] 90 (0, 0)) := blk_at _ (by simp)
  obtain ⟨⟨f1, f2, f3, f4, f5, f6⟩, f7⟩ := q6 a1
  obtain ⟨⟨g1, g2, g3, g4, g5, g6⟩, g7⟩ := q6 a2
  go_wp2_with fail
  refine (rcmp_calls x1.v x1.A x1.n x1.c x1.v' x1.A' x1.n' x1.c' r1.2 x2.v x2.A x2.n x2.c x2.v' x2.A' x2.n' x2.c' r2.2 _ (RatV.below h1.2 B0) (RatV.below h2.2 B0) k HS1.out.2 HS2.out.2 hk).mono ?_
  rintro e w1 ⟨rfl, hB1⟩
  replace a1 := blk_below a1 hB1
  replace a2 := blk_below a2 hB1
  replace B0 := bl_then B0 hB1
  clear f1 f2 f3 f4 f5 f6 f7 g1 g2 g3 g4 g5 g6 g7 hB1
  by_cases he : r1.2 = r2.2
  · rw [HN.out.2 he]
    obtain ⟨⟨f1, f2, f3, f4, f5, f6⟩, f7⟩ := q6 a1
    obtain ⟨⟨g1, g2, g3, g4, g5, g6⟩, g7⟩ := q6 a2
    have HHE := Lib.hid he
    clear he
    go_wp2_with fail
    refine (leqrats_calls A1 n1 c1 A2 n2 c2 r1.1 r2.1 _ (h1.1.below B0) (h2.1.below B0) k HS1.out.1 HS2.out.1 hk).mono ?_
    rintro e w2 ⟨he2, hB2⟩
    have : decide (r1.1 = r2.1) = D := by
      rw [← HD.out]
      apply decide_eq_decide.2
      exact ⟨fun e => HE.out.2 ⟨HHE.out, e⟩, fun e => (HE.out.1 e).2⟩
    rw [this] at he2
    subst he2
    have B1 := bl_then B0 hB2
    go_wp2
    go_ret
    exact ⟨rfl, B1⟩
  · have hs : ((r1.2 - r2.2).num.sign == 0) = false := by
      have : ¬ (r1.2 - r2.2).num.sign = 0 := fun h => he (HN.out.1 h)
      simpa using this
    have hs2 : decide ((r1.2 - r2.2).num.sign = 0) = false := decide_eq_false fun h => he (HN.out.1 h)
    have hd := HD.out
    rw [decide_eq_false (fun e => he (HE.out.1 e).1)] at hd
    subst hd
    generalize (r1.2 - r2.2).num.sign = sg at *
    go_wp2
    go_ret
    exact ⟨rfl, B0⟩
theorem leqrows_calls (A : Option Addr) (n c : Nat) (A' : Option Addr) (n' c' : Nat) (X Y : List Rw) (w : World) (h : RdW w A n X) (h' : RdW w A' n' Y) (k : Nat) (s1 : ∀ r ∈ X, SzW k r) (s2 : ∀ r ∈ Y, SzW k r) (hk : k ≤ 10000000000) :
    Calls Tryz.prog 107 #[.slice A n c, .slice A' n' c', .func (.func 58) #[] #[]] w fun e w' => e = .returned (.bool (decide (X = Y))) ∧ Below w.heap.size w w' := by
  have L1 := Lib.hid h.1
  have L2 := Lib.hid h'.1
  have hn := h.2.1
  have hn' := h'.2.1
  have HS1 := Lib.hid s1
  have HS2 := Lib.hid s2
  generalize hD : decide (X = Y) = D
  have HD := Lib.hid hD
  clear hD s1 s2
  go_enter Tryz.func107, Tryz.ntmps107
  by_cases hl : n = n'
  · subst hl
    have d1 : ((n : Int) != (n : Int)) = false := by simp
    go_wp2_with fail
    go_loopw [17] (fun i wr => ∃ kk : Nat, kk ≤ n ∧ i = .int .i64 kk ∧ (∀ j, j < kk → X.getD j ([], 0) = Y.getD j ([], 0)) ∧ Below w.heap.size w wr) (fun i _ => n - (intOf i).toNat)
    case atStart => exact ⟨0, Nat.zero_le _, rfl, fun j hj => absurd hj (by omega), Below.refl _ _⟩
    case round =>
      obtain ⟨kk, hkk, rfl, hall, B0⟩ := hrel
      have HALL := Lib.hid hall
      clear hall
      by_cases hlt : kk < n
      · obtain ⟨g, off, rfl, hg, hc⟩ := (h.below B0).2.2 (by omega)
        obtain ⟨A1, n1, c1, x1, b1, ⟨p1, p2, p3, p4, p5, p6⟩, t1⟩ := hc kk hlt
        obtain ⟨g', off', rfl, hg', hc'⟩ := (h'.below B0).2.2 (by omega)
        obtain ⟨A2, n2, c2, x2, b2, a6, t2⟩ := hc' kk hlt
        have S1 := Lib.hid (HS1.out _ (mem_getD (d := (([], 0) : Rw)) (by rw [L1.out]; exact hlt : kk < X.length)))
        have S2 := Lib.hid (HS2.out _ (mem_getD (d := (([], 0) : Rw)) (by rw [L2.out]; exact hlt : kk < Y.length)))
        clear hc hc' h h'
        generalize hx : X.getD kk ([], 0) = r1 at *
        generalize hy : Y.getD kk ([], 0) = r2 at *
        have HX := Lib.hid hx
        have HY := Lib.hid hy
        clear hx hy
        have a62 := At6.below a6 hg' (bl_alloc (Below.refl _ _) (.cells #[.slice A1 n1 c1, .int .i64 x1.v, .slice x1.A x1.n x1.c, .int .i64 x1.v', .slice x1.A' x1.n' x1.c', .bool b1] 90))
        obtain ⟨q1, q2, q3, q4, q5, q6'⟩ := a62
        have ax := blk_alloc (blk_at (W := wr) (.cells #[.slice A1 n1 c1, .int .i64 x1.v, .slice x1.A x1.n x1.c, .int .i64 x1.v', .slice x1.A' x1.n' x1.c', .bool b1] 90) rfl) (.cells #[.slice A2 n2 c2, .int .i64 x2.v, .slice x2.A x2.n x2.c, .int .i64 x2.v', .slice x2.A' x2.n' x2.c', .bool b2] 90)
        obtain ⟨⟨y1, y2, y3, y4, y5, y6⟩, y7⟩ := q6 ax
        have H2 := bl_alloc (bl_alloc (Below.refl wr.heap.size wr) (.cells #[.slice A1 n1 c1, .int .i64 x1.v, .slice x1.A x1.n x1.c, .int .i64 x1.v', .slice x1.A' x1.n' x1.c', .bool b1] 90)) (.cells #[.slice A2 n2 c2, .int .i64 x2.v, .slice x2.A x2.n x2.c, .int .i64 x2.v', .slice x2.A' x2.n' x2.c', .bool b2] 90)
        have B1 := bl_then B0 H2
        have hk0 : (0 : Int) ≤ (kk : Int) := by omega
        have hkn : (kk : Int) < (n : Int) := by omega
        go_wp2_with fail
        refine (lequal_calls A1 n1 c1 x1 b1 r1 A2 n2 c2 x2 b2 r2 _ (t1.below H2) (t2.below H2) k S1.out S2.out hk).mono ?_
        rintro e w1 ⟨he, hB1⟩
        replace B1 := bl_then B1 hB1
        clear p1 p2 p3 p4 p5 p6 q1 q2 q3 q4 q5 q6' y1 y2 y3 y4 y5 y6 y7 ax a6 t1 t2 hB1 hg hg' H2
        by_cases hqr : r1 = r2
        · rw [decide_eq_true hqr] at he
          subst he
          have HQR := Lib.hid hqr
          clear hqr
          go_wp2
          go_roundw
          case rel =>
            refine ⟨kk + 1, hlt, by go_num, ?_, B1⟩
            intro j hj
            rcases Nat.lt_or_ge j kk with h1 | h1
            · exact HALL.out j h1
            · have : j = kk := by omega
              subst this
              rw [HX.out, HY.out]; exact HQR.out
          case measure => simp [intOf]; omega
        · rw [decide_eq_false hqr] at he
          subst he
          have hd := HD.out
          rw [decide_eq_false (fun e => hqr (by rw [← HX.out, ← HY.out, e]))] at hd
          subst hd
          go_wp2
          go_ret
          exact ⟨rfl, B1⟩
      · have hd := HD.out
        rw [decide_eq_true (show X = Y from by
          apply List.ext_getElem?
          intro j
          rcases Nat.lt_or_ge j n with hj | hj
          · have := HALL.out j (by omega)
            rw [List.getD_eq_getElem?_getD, List.getD_eq_getElem?_getD, List.getElem?_eq_getElem (by rw [L1.out]; exact hj), List.getElem?_eq_getElem (by rw [L2.out]; exact hj)] at this
            rw [List.getElem?_eq_getElem (by rw [L1.out]; exact hj), List.getElem?_eq_getElem (by rw [L2.out]; exact hj)]
            exact congrArg some this
          · rw [List.getElem?_eq_none (by rw [L1.out]; exact hj), List.getElem?_eq_none (by rw [L2.out]; exact hj)])] at hd
        subst hd
        go_wp2
        go_ret
        exact ⟨rfl, B0⟩
  · have hd := HD.out
    rw [decide_eq_false (fun e => hl (by rw [← L1.out, ← L2.out, e]))] at hd
    subst hd
    have d1 : ((n : Int) != (n' : Int)) = true := by simp; omega
    go_wp2
    go_ret
    exact ⟨rfl, Below.refl _ _⟩
theorem lalike_calls (A : Option Addr) (n c : Nat) (A' : Option Addr) (n' c' : Nat) (X Y : List Rw) (w : World) (h : RdW w A n X) (h' : RdW w A' n' Y) (k : Nat) (s1 : ∀ r ∈ X, SzW k r) (s2 : ∀ r ∈ Y, SzW k r) (hk : k ≤ 10000000000) :
    Calls Tryz.prog 57 #[.slice A n c, .slice A' n' c', .func (.func 58) #[] #[]] w fun e w' => e = .returned (.bool (decide (X = Y))) ∧ Below w.heap.size w w' := by
  have HC := Lib.hid (leqrows_calls A n c A' n' c' X Y w h h' k s1 s2 hk)
  generalize decide (X = Y) = D at *
  go_enter Tryz.func57, Tryz.ntmps57
  go_wp2_with fail
  refine HC.out.mono ?_
  rintro e w1 ⟨rfl, hB1⟩
  go_wp2
  go_ret
  exact ⟨rfl, hB1⟩
end Go.Proofs.YtloplmmnmehkmaaGreat

namespace Go.Proofs.YtloplmmnmehkmaaGreat
open Go.RowKit

/-- What lin.Same hands back. -/
def samB (n : Int) (F G : List Fm) : Bool := if OkFs n F ∧ OkFs n G then ((rowsF n.toNat (F.map rowF)).isSome == (rowsF n.toNat (G.map rowF)).isSome) && decide ((rowsF n.toNat (F.map rowF)).getD [] = (rowsF n.toNat (G.map rowF)).getD []) else false
def samE (n : Int) (F G : List Fm) : Int := if OkFs n F ∧ OkFs n G then 0 else 1
theorem okf_getD {n : Nat} {F : List Fm} (h : OkFs n F) : ∀ q ∈ (rowsF n (F.map rowF)).getD [], SzW 17851 q := by
  cases e : rowsF n (F.map rowF) with
  | none => intro q hq; cases hq
  | some R => intro q hq; exact ((okf_R h e).2 q hq).2.2.2
set_option maxHeartbeats 40000000
set_option maxRecDepth 100000
theorem lsame_calls (n : Int) (A : Option Addr) (m c : Nat) (F : List Fm) (A' : Option Addr) (m' c' : Nat) (G : List Fm) (w : World) (h : RdF w A m F) (hi : ∀ f ∈ F, I64F f) (hl : ∀ f ∈ F, f.1.length ≤ 1000000) (hm : m ≤ 500) (h' : RdF w A' m' G) (hi' : ∀ f ∈ G, I64F f) (hl' : ∀ f ∈ G, f.1.length ≤ 1000000) (hm' : m' ≤ 500) :
    Calls Tryz.prog 19 #[.int .i64 n, .slice A m c, .slice A' m' c'] w fun e w' => e = .returned (.tuple #[.bool (samB n F G), .int .i64 (samE n F G)]) ∧ Below w.heap.size w w' := by
  have L := Lib.hid h.1
  have L' := Lib.hid h'.1
  have HI := Lib.hid hi
  have HL := Lib.hid hl
  have HI' := Lib.hid hi'
  have HL' := Lib.hid hl'
  have NO : ¬ (OkFs n F ∧ OkFs n G) → samB n F G = false ∧ samE n F G = 1 := fun hh => ⟨if_neg hh, if_neg hh⟩
  have YES : OkFs n F → OkFs n G → samB n F G = (((rowsF n.toNat (F.map rowF)).isSome == (rowsF n.toNat (G.map rowF)).isSome) && decide ((rowsF n.toNat (F.map rowF)).getD [] = (rowsF n.toNat (G.map rowF)).getD [])) ∧ samE n F G = 0 := fun h1 h2 => ⟨if_pos ⟨h1, h2⟩, if_pos ⟨h1, h2⟩⟩
  generalize samB n F G = sB at *
  generalize samE n F G = sE at *
  clear hi hl hi' hl'
  go_enter Tryz.func19, Tryz.ntmps19
  go_wp2_with fail
  refine (forms_calls n A m c F _ h).mono ?_
  rintro e w1 ⟨he, hB1⟩
  by_cases hok : OkFs n F
  · rw [decide_eq_true hok] at he
    subst he
    go_wp2_with fail
    refine (forms_calls n A' m' c' G _ (h'.below hB1)).mono ?_
    rintro e w2 ⟨he, hB2⟩
    have B0 := bl_then hB1 hB2
    clear hB1 hB2
    by_cases hok' : OkFs n G
    · rw [decide_eq_true hok'] at he
      subst he
      obtain ⟨nn, rfl⟩ : ∃ nn : Nat, n = nn := ⟨n.toNat, by have := hok.1.1; omega⟩
      obtain ⟨hy1, rfl⟩ := YES hok hok'
      rw [Int.toNat_natCast] at hy1
      have HY := Lib.hid hy1
      have HOK := Lib.hid hok
      have HOK' := Lib.hid hok'
      have hn8 : nn ≤ 8 := by have := hok.1.2; omega
      clear YES NO hok hok' hy1
      go_wp2_with fail
      refine (rows_calls A m c F _ (h.below B0) HI.out HL.out hm).mono ?_
      rintro e w3 ⟨⟨A2, c2, rfl, hr2⟩, hB3⟩
      replace B0 := bl_then B0 hB3
      clear hB3
      go_wp2_with fail
      refine (lrows_calls nn hn8 A2 m c2 (F.map rowF) _ hr2 hm (okf_rows HOK.out).1 17851 61 (okf_rows HOK.out).2.1 (fun kk hkk => (okf_rows HOK.out).2.2 kk (by rw [L.out]; exact hkk)) kR_a kR_b (by omega) (by omega)).mono ?_
      rintro e w4 ⟨⟨A3, m3, c3, he, hr3⟩, hB4⟩
      replace B0 := bl_then B0 hB4
      clear hB4 hr2
      have HZ1 := Lib.hid (okf_getD HOK.out)
      generalize (rowsF nn (F.map rowF)).isSome = d1 at *
      generalize (rowsF nn (F.map rowF)).getD [] = R1 at *
      subst he
      go_wp2_with fail
      refine (rows_calls A' m' c' G _ (h'.below B0) HI'.out HL'.out hm').mono ?_
      rintro e w5 ⟨⟨A4, c4, rfl, hr4⟩, hB5⟩
      replace B0 := bl_then B0 hB5
      replace hr3 := hr3.below hB5
      clear hB5
      go_wp2_with fail
      refine (lrows_calls nn hn8 A4 m' c4 (G.map rowF) _ hr4 hm' (okf_rows HOK'.out).1 17851 61 (okf_rows HOK'.out).2.1 (fun kk hkk => (okf_rows HOK'.out).2.2 kk (by rw [L'.out]; exact hkk)) kR_a kR_b (by omega) (by omega)).mono ?_
      rintro e w6 ⟨⟨A5, m5, c5, he, hr5⟩, hB6⟩
      replace B0 := bl_then B0 hB6
      replace hr3 := hr3.below hB6
      clear hB6 hr4
      have HZ2 := Lib.hid (okf_getD HOK'.out)
      generalize (rowsF nn (G.map rowF)).isSome = d2 at *
      generalize (rowsF nn (G.map rowF)).getD [] = R2 at *
      subst he
      by_cases hd : d1 = d2
      · subst hd
        have hdd : (d1 == d1) = true := by simp
        have hdd2 : decide (d1 = d1) = true := by simp
        rw [hdd, Bool.true_and] at HY
        go_wp2_with fail
        refine (lalike_calls A3 m3 c3 A5 m5 c5 R1 R2 _ hr3 hr5 17851 HZ1.out HZ2.out (by omega)).mono ?_
        rintro e w7 ⟨he, hB7⟩
        rw [← HY.out] at he
        subst he
        replace B0 := bl_then B0 hB7
        clear hB7 hr3 hr5 HY
        go_wp2
        go_ret2
        exact ⟨rfl, B0⟩
      · have hdd : (d1 == d2) = false := by simpa using hd
        have hdd2 : decide (d1 = d2) = false := decide_eq_false hd
        rw [hdd, Bool.false_and] at HY
        have hy := HY.out
        subst hy
        clear HY
        go_wp2
        go_ret2
        exact ⟨rfl, B0⟩
    · rw [decide_eq_false hok'] at he
      subst he
      obtain ⟨rfl, rfl⟩ := NO (fun hh => hok' hh.2)
      clear YES NO hok hok'
      go_wp2
      go_ret2
      exact ⟨rfl, B0⟩
  · rw [decide_eq_false hok] at he
    subst he
    obtain ⟨rfl, rfl⟩ := NO (fun hh => hok hh.1)
    clear YES NO hok
    go_wp2
    go_ret2
    exact ⟨rfl, hB1⟩
/-- The value of a form at a point. -/
def fvl (f : Fm) (x : List (Int × Int)) (n : Nat) : Rat := valK (rowF f) (x.map ratP) n
def zerF (F : List Fm) (x : List (Int × Int)) (n : Nat) : Prop := ∀ f ∈ F, fvl f x n = 0
instance (F : List Fm) (x : List (Int × Int)) (n : Nat) : Decidable (zerF F x n) := by unfold zerF; infer_instance
theorem lzero_calls (n : Nat) (A : Option Addr) (m c : Nat) (F : List Fm) (A' : Option Addr) (c' : Nat) (x : List (Int × Int)) (w : World) (h : RdF w A m F) (h' : RdN w A' n x) (hm : m ≤ 500) (hF : ∀ f ∈ F, OkF n f) (hx : I64s x) (hX : OkX n x) :
    Calls Tryz.prog 22 #[.slice A m c, .slice A' n c'] w fun e w' => e = .returned (.bool (decide (zerF F x n))) ∧ Below w.heap.size w w' := by
  have L := Lib.hid h.1
  have LX := Lib.hid h'.1
  have hn8 : n ≤ 8 := by have := hX.1.2; omega
  have HF := Lib.hid hF
  have HX := Lib.hid hX.2.2
  have HSX : Hid (∀ j, SzR 100 ((x.map ratP).getD j 0)) := Lib.hid fun j => by
    rcases Nat.lt_or_ge j n with hj | hj
    · rw [getD_map ratP x j (0, 0) 0 (by rw [LX.out]; exact hj)]
      exact (ratP_sz (HX.out _ (mem_getD (by rw [LX.out]; exact hj)))).mono (by omega)
    · rw [List.getD_eq_getElem?_getD, List.getElem?_eq_none (by rw [List.length_map, LX.out]; exact hj)]
      exact ⟨by show Sz 100 0; unfold Sz; decide, by show Sz 100 1; unfold Sz; decide⟩
  generalize hD : decide (zerF F x n) = D
  have HD := Lib.hid hD
  clear hD hF hX
  go_enter Tryz.func22, Tryz.ntmps22
  go_wp2_with fail
  go_loopw [9] (fun i wr => ∃ kk : Nat, kk ≤ m ∧ i = .int .i64 kk ∧ (∀ j, j < kk → fvl (F.getD j ([], 0)) x n = 0) ∧ Below w.heap.size w wr) (fun i _ => m - (intOf i).toNat)
  case atStart => exact ⟨0, Nat.zero_le _, rfl, fun j hj => absurd hj (by omega), Below.refl _ _⟩
  case round =>
    obtain ⟨kk, hkk, rfl, hall, B0⟩ := hrel
    have HALL := Lib.hid hall
    clear hall
    by_cases hlt : kk < m
    · obtain ⟨g, off, rfl, hg, hc⟩ := (h.below B0).2.2 (by omega)
      obtain ⟨A1, n1, c1, p1, p2, hr⟩ := hc kk hlt
      have hmem : F.getD kk ([], 0) ∈ F := mem_getD (by rw [L.out]; exact hlt)
      have hof := HF.out _ hmem
      have HMEM := Lib.hid hmem
      clear hc h hmem
      generalize hf : F.getD kk ([], 0) = f at *
      have HFF := Lib.hid hf
      clear hf
      have hn1 : n1 = n := by have h1 := hof.2.1; have h2 := hr.1; omega
      subst hn1
      have HOF := Lib.hid hof
      clear hof
      have r2 := hr.below (bl_alloc (Below.refl _ _) (.cells #[.slice A1 n1 c1, .int .i64 f.2] 44))
      have B1 := bl_alloc B0 (.cells #[.slice A1 n1 c1, .int .i64 f.2] 44)
      go_wp2_with fail
      refine (r2to_calls A1 n1 c1 f _ r2 (i64f_of HOF.out) (by omega)).mono ?_
      rintro e w1 ⟨⟨A3, c3, x3, rfl, t3, t3'⟩, hB1⟩
      replace B1 := bl_then B1 hB1
      clear hB1 p1 p2 hr r2 hg
      go_wp2_with fail
      refine (r2rats_calls A' n1 c' x _ (h'.below B1) hx HX.out (by omega)).mono ?_
      rintro e w2 ⟨⟨A4, c4, rfl, t4⟩, hB1⟩
      replace B1 := bl_then B1 hB1
      replace t3 := t3.below hB1
      replace t3' : x3.Is _ f.2 := RV.below t3' hB1
      clear hB1
      go_wp2_with fail
      refine (r2eval_calls A3 n1 c3 x3 f.1 f.2 A4 c4 (x.map ratP) _ t3 t3' t4 hn8 ((rowF_sz HOF.out).mono (by omega)) HSX.out).mono ?_
      rintro e w3 ⟨⟨s5, b5, A5, n5, c5, s5', b5', A5', n5', c5', rfl, t5⟩, hB1⟩
      replace B1 := bl_then B1 hB1
      have HV : Hid (valK (rwZ f.1 f.2) (x.map ratP) n1 = fvl f x n1) := Lib.hid rfl
      rw [HV.out] at t5
      clear hB1 t3 t3' t4
      go_wp2_with fail
      refine (rrsign_calls s5 b5 A5 n5 c5 s5' b5' A5' n5' c5' _ _ t5).mono ?_
      rintro e w4 ⟨rfl, hB1⟩
      replace B1 := bl_then B1 hB1
      clear hB1 t5
      by_cases hz : fvl f x n1 = 0
      · have hs := (num_sign_zero _).2 hz
        rw [hs]
        have HZ := Lib.hid hz
        clear hz hs
        go_wp2
        go_roundw
        case rel =>
          refine ⟨kk + 1, hlt, by go_num, ?_, B1⟩
          intro j hj
          rcases Nat.lt_or_ge j kk with h1 | h1
          · exact HALL.out j h1
          · have : j = kk := by omega
            subst this
            rw [HFF.out]; exact HZ.out
        case measure => simp [intOf]; omega
      · have hs : ((fvl f x n1).num.sign != 0) = true := by
          have : ¬ (fvl f x n1).num.sign = 0 := fun h => hz ((num_sign_zero _).1 h)
          simpa using this
        have hd := HD.out
        rw [decide_eq_false (fun hh => hz (hh f HMEM.out))] at hd
        subst hd
        generalize (fvl f x n1).num.sign = sg at *
        go_wp2
        go_ret
        exact ⟨rfl, B1⟩
    · have hd := HD.out
      rw [decide_eq_true (show zerF F x n from all_of_getD (p := fun f => fvl f x n = 0) (d := (([], 0) : Fm)) fun j hj => HALL.out j (by rw [L.out] at hj; omega))] at hd
      subst hd
      go_wp2
      go_ret
      exact ⟨rfl, B0⟩
end Go.Proofs.YtloplmmnmehkmaaGreat

namespace Go.Proofs.YtloplmmnmehkmaaGreat

/-- The value of a vector at a point. -/
def phK (n : Nat) (X : List Rat) (v : Vc) : Nat → Rat
  | 0 => v n
  | k + 1 => phK n X v k + v k * X.getD k 0
theorem phK_lin (n : Nat) (X : List Rat) (v a : Vc) (c : Rat) (k : Nat) : phK n X (vadd v c a) k = phK n X v k + c * phK n X a k := by
  induction k with
  | zero => rfl
  | succ k ih =>
    show phK n X (vadd v c a) k + (v k + c * a k) * X.getD k 0 = (phK n X v k + v k * X.getD k 0) + c * (phK n X a k + a k * X.getD k 0)
    rw [ih]; grind
theorem phK_zero (n : Nat) (X : List Rat) (k : Nat) : phK n X vz k = 0 := by
  induction k with
  | zero => rfl
  | succ k ih =>
    show phK n X vz k + 0 * X.getD k 0 = 0
    rw [ih]; grind
theorem phK_sp {n : Nat} {X : List Rat} {k : Nat} : ∀ {L : List Vc} {v : Vc}, Sp L v → (∀ a ∈ L, phK n X a k = 0) → phK n X v k = 0 := by
  intro L
  induction L with
  | nil =>
    intro v hv _
    have : v = vz := hv
    rw [this]; exact phK_zero n X k
  | cons a L ih =>
    intro v hv h
    obtain ⟨c, hc⟩ := hv
    have h1 := ih hc (fun b hb => h b (List.mem_cons_of_mem _ hb))
    rw [phK_lin, h a (List.mem_cons_self ..)] at h1
    grind
theorem phK_val {n : Nat} {r : Rw} (hr : r.1.length = n) (X : List Rat) (k : Nat) (hk : k ≤ n) : valK r X k = phK n X (rv r) k := by
  induction k with
  | zero => show r.2 = rv r n; rw [← hr, rv_add]
  | succ k ih =>
    show valK r X k + r.1.getD k 0 * X.getD k 0 = phK n X (rv r) k + rv r k * X.getD k 0
    rw [ih (by omega), rv_lt r k (by omega)]
theorem phK_ld {n : Nat} {X : List Rat} {v : Vc} (h : Ld v n) (k : Nat) (hk : k ≤ n) : phK n X v k = v n := by
  induction k with
  | zero => rfl
  | succ k ih =>
    show phK n X v k + v k * X.getD k 0 = v n
    rw [ih (by omega), h.2 k (by omega)]; grind
/-- What solX holds. -/
theorem sol_other (R : List Rw) (acc : List Rat) (j : Nat) (h : ∀ q ∈ R, ldF q.1 ≠ j) : (R.foldl solS acc).getD j 0 = acc.getD j 0 := by
  induction R generalizing acc with
  | nil => rfl
  | cons q R ih =>
    show (R.foldl solS (solS acc q)).getD j 0 = _
    rw [ih _ (fun q' hq' => h q' (List.mem_cons_of_mem _ hq'))]
    unfold solS
    rw [List.getD_eq_getElem?_getD, List.getElem?_set_ne (h q (List.mem_cons_self ..)), ← List.getD_eq_getElem?_getD]
theorem sol_len (R : List Rw) (acc : List Rat) : (R.foldl solS acc).length = acc.length := by
  induction R generalizing acc with
  | nil => rfl
  | cons q R ih => show (R.foldl solS (solS acc q)).length = _; rw [ih]; unfold solS; simp
theorem sol_at (R : List Rw) (acc : List Rat) (hd : R.Pairwise fun q q' => ldF q.1 ≠ ldF q'.1) (q : Rw) (hq : q ∈ R) (hl : ldF q.1 < acc.length) : (R.foldl solS acc).getD (ldF q.1) 0 = -(q.2 / q.1.getD (ldF q.1) 0) := by
  induction R generalizing acc with
  | nil => cases hq
  | cons p R ih =>
    rw [List.pairwise_cons] at hd
    show (R.foldl solS (solS acc p)).getD (ldF q.1) 0 = _
    rcases List.mem_cons.1 hq with h | h
    · subst h
      rw [sol_other R _ _ (fun q' hq' => (hd.1 q' hq').symm)]
      unfold solS
      rw [List.getD_eq_getElem?_getD, List.getElem?_set_self hl]; rfl
    · exact ih _ hd.2 h (by unfold solS; simpa using hl)
/-- The rows held, in full. -/
theorem rows_B {n : Nat} {L : List Rw} (hL : ∀ r ∈ L, r.1.length = n) {R : List Rw} (h : rowsF n L = some R) : ∃ B, Inv n B (L.map rv) ∧ R = flatF n B := by
  have h1 := run_spec L (Inv.start n) hL
  unfold rowsF at h
  cases e : runF n (fun _ => none) L with
  | none => rw [e] at h; cases h
  | some B =>
    rw [e] at h h1
    simp only [List.nil_append] at h1
    cases h
    exact ⟨B, h1, rfl⟩
theorem lead_nodup {n : Nat} {B : Nat → Option Rw} {L : List Vc} (h : Inv n B L) (ks : List Nat) (hn : ks.Nodup) : (ks.filterMap B).Pairwise fun q q' => ldF q.1 ≠ ldF q'.1 := by
  induction ks with
  | nil => exact List.Pairwise.nil
  | cons k ks ih =>
    rw [List.nodup_cons] at hn
    rw [List.filterMap_cons]
    cases e : B k with
    | none => exact ih hn.2
    | some q =>
      refine List.pairwise_cons.2 ⟨fun q' hq' => ?_, ih hn.2⟩
      obtain ⟨k', h1, h2⟩ := List.mem_filterMap.1 hq'
      rw [h.ld e, h.ld h2]
      intro hk
      exact hn.1 (hk ▸ h1)
/-- The solution solves the rows held. -/
theorem sol_rows {n : Nat} {B : Nat → Option Rw} {L : List Vc} (h : Inv n B L) {q : Rw} (hq : q ∈ flatF n B) : phK n (solX n (flatF n B)) (rv q) n = 0 := by
  obtain ⟨k0, hk0, eq⟩ := mem_flat.1 hq
  have hld := h.ld eq
  have hrow := h.row k0 q eq
  have hne : rv q k0 ≠ 0 := hrow.2.2.1.1
  have hX : (solX n (flatF n B)).getD k0 0 = -(q.2 / rv q k0) := by
    have := sol_at (flatF n B) (List.replicate n 0) (lead_nodup h _ List.nodup_range) q hq (by rw [List.length_replicate, hld]; exact hk0)
    rw [hld] at this
    rw [rv_lt q k0 (by rw [hrow.2.1]; exact hk0)]
    exact this
  have hO : ∀ j, j < n → j ≠ k0 → rv q j * (solX n (flatF n B)).getD j 0 = 0 := by
    intro j hj hjk
    cases e : B j with
    | some q' =>
      rw [h.alone k0 q j q' eq e (Ne.symm hjk)]; grind
    | none =>
      have : (solX n (flatF n B)).getD j 0 = 0 := by
        rw [solX_eq, sol_other]
        · rw [List.getD_eq_getElem?_getD, List.getElem?_replicate]; split <;> rfl
        · intro q' hq' hl
          obtain ⟨k', hk', e'⟩ := mem_flat.1 hq'
          rw [h.ld e'] at hl
          subst hl
          rw [e] at e'
          cases e'
      rw [this]; grind
  have key : ∀ k, k ≤ n → phK n (solX n (flatF n B)) (rv q) k = if k0 < k then 0 else q.2 := by
    intro k
    induction k with
    | zero => intro _; rw [if_neg (by omega)]; show rv q n = q.2; rw [← hrow.2.1, rv_add]
    | succ k ih =>
      intro hk
      show phK n _ (rv q) k + rv q k * (solX n (flatF n B)).getD k 0 = _
      rw [ih (by omega)]
      by_cases hkk : k = k0
      · subst hkk
        rw [if_neg (by omega), if_pos (by omega), hX]
        rw [Rat.mul_neg, Rat.mul_comm, Rat.div_mul_cancel hne]; grind
      · rw [hO k (by omega) hkk]
        by_cases h1 : k0 < k
        · rw [if_pos h1, if_pos (by omega)]; grind
        · rw [if_neg h1, if_neg (by omega)]; grind
  rw [key n (Nat.le_refl n), if_pos hk0]
/-- An echelon form is its own echelon form. -/
theorem rows_idem {n : Nat} {B : Nat → Option Rw} {L : List Vc} (h : Inv n B L) : rowsF n (flatF n B) = some (flatF n B) := by
  have hl : ∀ r ∈ flatF n B, r.1.length = n := fun r hr => (h.flat r hr).1
  have h1 := rows_spec (flatF n B) hl
  have he := h.ech
  have he2 : Ech n ((flatF n B).map rv) ((flatF n B).map rv) := by
    obtain ⟨S, a1, a2, a3, a4, a5, _⟩ := he
    exact ⟨S, a1, a2, a3, a4, a5, fun v => Iff.rfl⟩
  cases e : rowsF n (flatF n B) with
  | none =>
    rw [e] at h1
    obtain ⟨v, hv, hld⟩ := h1
    exact absurd hld (he2.no hv)
  | some R =>
    rw [e] at h1
    have h2 := h1.1.eq he2
    have : R = flatF n B := by
      have hlen : R.length = (flatF n B).length := by have := congrArg List.length h2; simpa using this
      apply List.ext_getElem hlen
      intro i hi1 hi2
      have h3 : (R.map rv)[i]'(by simpa using hi1) = ((flatF n B).map rv)[i]'(by simpa using hi2) := by
        have := congrArg (fun l => l[i]?) h2
        simp only [List.getElem?_eq_getElem (show i < (R.map rv).length by simpa using hi1), List.getElem?_eq_getElem (show i < ((flatF n B).map rv).length by simpa using hi2)] at this
        exact Option.some.inj this
      rw [List.getElem_map, List.getElem_map] at h3
      exact rv_inj (by rw [h1.2 _ (List.getElem_mem hi1), hl _ (List.getElem_mem hi2)]) h3
    rw [this]
end Go.Proofs.YtloplmmnmehkmaaGreat

namespace Go.Proofs.YtloplmmnmehkmaaGreat

theorem row_back {r : Rw} (h : Pm (rv r)) : rowF (outW r) = r := by
  obtain ⟨z, hz, _⟩ := h
  have hint : ∀ q : Rat, (∃ y : Int, q = (y : Rat)) → ((q.num : Int) : Rat) = q := by
    rintro q ⟨y, rfl⟩
    rw [Rat.num_intCast]
  unfold rowF outW
  refine Prod.ext ?_ ?_
  · show (r.1.map Rat.num).map (fun x : Int => (x : Rat)) = r.1
    rw [List.map_map]
    refine (List.map_congr_left fun q hq => ?_).trans (List.map_id _)
    obtain ⟨j, hj, rfl⟩ := List.getElem_of_mem hq
    refine hint _ ⟨z j, ?_⟩
    have := hz j
    rw [rv_lt r j hj, List.getD_eq_getElem?_getD, List.getElem?_eq_getElem hj] at this
    exact this
  · refine hint r.2 ⟨z r.1.length, ?_⟩
    rw [← hz, rv_add]
theorem fvl_ph {n : Nat} {f : Fm} (h : OkF n f) (x : List (Int × Int)) : fvl f x n = phK n (x.map ratP) (rv (rowF f)) n := by
  have hl : (rowF f).1.length = n := by have := h.2.1; simp [rowF]; omega
  exact phK_val hl _ n (Nat.le_refl n)
theorem okf_len {n : Nat} {F : List Fm} (h : OkFs n F) : ∀ r ∈ F.map rowF, r.1.length = n := (okf_rows h).1
/-- Forms whose rows span the same. -/
theorem zer_iff {n : Nat} {F G : List Fm} (hF : ∀ f ∈ F, OkF n f) (hG : ∀ f ∈ G, OkF n f) (hs : ∀ v, Sp ((F.map rowF).map rv) v ↔ Sp ((G.map rowF).map rv) v) (x : List (Int × Int)) : zerF F x n ↔ zerF G x n := by
  have one : ∀ {F G : List Fm}, (∀ f ∈ F, OkF n f) → (∀ f ∈ G, OkF n f) → (∀ f ∈ G, Sp ((F.map rowF).map rv) (rv (rowF f))) → zerF F x n → zerF G x n := by
    intro F G hF hG hsp hz f hf
    rw [fvl_ph (hG f hf)]
    refine phK_sp (hsp f hf) fun a ha => ?_
    obtain ⟨r, hr, rfl⟩ := List.mem_map.1 ha
    obtain ⟨g, hg, rfl⟩ := List.mem_map.1 hr
    rw [← fvl_ph (hF g hg)]
    exact hz g hg
  exact ⟨one hF hG fun f hf => (hs _).2 (Sp.mem (List.mem_map_of_mem (List.mem_map_of_mem hf))), one hG hF fun f hf => (hs _).1 (Sp.mem (List.mem_map_of_mem (List.mem_map_of_mem hf)))⟩
/-- No solution. -/
theorem no_sol {n : Nat} {F : List Fm} (h : OkFs n F) (hR : rowsF n (F.map rowF) = none) (x : List (Int × Int)) : ¬ zerF F x n := by
  have h1 := rows_spec (F.map rowF) (okf_len h)
  rw [hR] at h1
  obtain ⟨v, hv, hl⟩ := h1
  intro hz
  have h2 : phK n (x.map ratP) v n = 0 := phK_sp hv fun a ha => by
    obtain ⟨r, hr, rfl⟩ := List.mem_map.1 ha
    obtain ⟨f, hf, rfl⟩ := List.mem_map.1 hr
    rw [← fvl_ph (h.2.2 f hf)]
    exact hz f hf
  rw [phK_ld hl n (Nat.le_refl n)] at h2
  exact hl.1 h2
theorem ratP_outP (q : Rat) : ratP (outP q) = q := Rat.num_divInt_den q
theorem okN_of {q : Rat} (h : Fits q) : OkN (outP q).1 (outP q).2 := by
  obtain ⟨h1, h2, h3⟩ := h
  have := q.den_pos
  refine ⟨?_, h3, h2, h1, ?_⟩
  · show (1 : Int) ≤ (q.den : Int); omega
  · show Int.gcd q.num (q.den : Int) = 1
    exact q.reduced
theorem i64_of_okN {x : Int × Int} (h : OkN x.1 x.2) : I64 x.1 x.2 := by
  obtain ⟨h1, h2, h3, h4, _⟩ := h
  unfold I64
  omega
/-- All that the law compares, where there is an echelon form. -/
theorem sol_facts {n : Nat} {F : List Fm} (h : OkFs n F) {R : List Rw} (hR : rowsF n (F.map rowF) = some R) (hfs : fsOk R) :
    OkFs n (R.map outW) ∧ (R.map outW).map rowF = R ∧ rowsF n R = some R ∧ (∀ x, zerF F x n ↔ zerF (R.map outW) x n) ∧
    (osOk (solX n R) → OkX n ((solX n R).map outP) ∧ zerF F ((solX n R).map outP) n) := by
  obtain ⟨B, hinv, rfl⟩ := rows_B (okf_len h) hR
  have hn8 : n ≤ 8 := by have := h.1.2; omega
  have hpm : ∀ r ∈ flatF n B, Pm (rv r) := fun r hr => by
    obtain ⟨k, _, e⟩ := mem_flat.1 hr
    exact (hinv.row k r e).2.2.2.2
  have hlen : ∀ r ∈ flatF n B, r.1.length = n := fun r hr => (hinv.flat r hr).1
  have hP : OkFs n ((flatF n B).map outW) := by
    refine ⟨h.1, ?_, fun f hf => ?_⟩
    · rw [List.length_map]
      have : (flatF n B).length ≤ n := flatU_len B n
      omega
    · obtain ⟨r, hr, rfl⟩ := List.mem_map.1 hf
      have ho := hfs r hr
      refine ⟨h.1, ?_, ho.1, fun y hy => ?_⟩
      · show ((r.1.map Rat.num).length : Int) = n
        rw [List.length_map, hlen r hr]
      · obtain ⟨q, hq, rfl⟩ := List.mem_map.1 hy
        exact ho.2 q hq
  have hback : ((flatF n B).map outW).map rowF = flatF n B := by
    rw [List.map_map]
    exact (List.map_congr_left fun r hr => row_back (hpm r hr)).trans (List.map_id _)
  refine ⟨hP, hback, rows_idem hinv, fun x => ?_, fun hos => ?_⟩
  · refine zer_iff h.2.2 hP.2.2 (fun v => ?_) x
    rw [hback]
    exact (hinv.span v).symm
  · have hXl : (solX n (flatF n B)).length = n := by rw [solX_eq, sol_len, List.length_replicate]
    have hmap : ((solX n (flatF n B)).map outP).map ratP = solX n (flatF n B) := by
      rw [List.map_map]
      exact (List.map_congr_left fun q _ => ratP_outP q).trans (List.map_id _)
    refine ⟨⟨h.1, by rw [List.length_map, hXl], fun y hy => ?_⟩, fun f hf => ?_⟩
    · obtain ⟨q, hq, rfl⟩ := List.mem_map.1 hy
      exact okN_of (hos q hq)
    · rw [fvl_ph (h.2.2 f hf), hmap]
      have hsp : Sp ((flatF n B).map rv) (rv (rowF f)) := (hinv.span _).2 (Sp.mem (List.mem_map_of_mem (List.mem_map_of_mem hf)))
      refine phK_sp hsp fun a ha => ?_
      obtain ⟨q, hq, rfl⟩ := List.mem_map.1 ha
      exact sol_rows hinv hq
end Go.Proofs.YtloplmmnmehkmaaGreat

namespace Go.Proofs.YtloplmmnmehkmaaGreat
open Go.RowKit

def fewP (F : List Fm) : Prop := (∀ f ∈ F, f.1.length ≤ 40) ∧ F.length < 140
instance (F : List Fm) : Decidable (fewP F) := by unfold fewP; infer_instance
set_option maxHeartbeats 40000000
set_option maxRecDepth 100000
theorem lfew_calls (A : Option Addr) (m c : Nat) (F : List Fm) (w : World) (h : RdF w A m F) :
    Calls Tryz.prog 9 #[.slice A m c] w fun e w' => e = .returned (.bool (decide (fewP F))) ∧ Below w.heap.size w w' := by
  have L := Lib.hid h.1
  have hm := h.2.1
  generalize hD : decide (fewP F) = D
  have HD := Lib.hid hD
  clear hD
  go_enter Tryz.func9, Tryz.ntmps9
  go_wp2_with fail
  go_loopw [7] (fun i wr => ∃ kk : Nat, kk ≤ m ∧ i = .int .i64 kk ∧ (∀ j, j < kk → (F.getD j ([], 0)).1.length ≤ 40) ∧ Below w.heap.size w wr) (fun i _ => m - (intOf i).toNat)
  case atStart => exact ⟨0, Nat.zero_le _, rfl, fun j hj => absurd hj (by omega), Below.refl _ _⟩
  case round =>
    obtain ⟨kk, hkk, rfl, hall, B0⟩ := hrel
    have HALL := Lib.hid hall
    clear hall
    by_cases hlt : kk < m
    · obtain ⟨g, off, rfl, hg, hc⟩ := (h.below B0).2.2 (by omega)
      obtain ⟨A1, n1, c1, p1, p2, hr⟩ := hc kk hlt
      have HMEM := Lib.hid (mem_getD (d := (([], 0) : Fm)) (by rw [L.out]; exact hlt : kk < F.length))
      have hn1 : (F.getD kk ([], 0)).1.length = n1 := hr.1
      have HN1 := Lib.hid hn1
      have hn2 := hr.2.1
      clear hc h hr hn1
      generalize hff : F.getD kk ([], 0) = f at *
      have HFF := Lib.hid hff
      clear hff
      have B1 := bl_alloc B0 (.cells #[.slice A1 n1 c1, .int .i64 f.2] 44)
      by_cases h40 : n1 ≤ 40
      · have d1 : decide ((40 : Int) < (n1 : Int)) = false := decide_eq_false (by omega)
        have d2 : ¬ (40 : Int) < (n1 : Int) := by omega
        go_wp2
        go_roundw
        case rel =>
          refine ⟨kk + 1, hlt, by go_num, ?_, B1⟩
          intro j hj
          rcases Nat.lt_or_ge j kk with h1 | h1
          · exact HALL.out j h1
          · have : j = kk := by omega
            subst this
            rw [HFF.out, HN1.out]; exact h40
        case measure => simp [intOf]; omega
      · have d1 : decide ((40 : Int) < (n1 : Int)) = true := decide_eq_true (by omega)
        have d2 : (40 : Int) < (n1 : Int) := by omega
        have hd := HD.out
        rw [decide_eq_false (fun hh => h40 (by rw [← HN1.out]; exact hh.1 _ HMEM.out))] at hd
        subst hd
        go_wp2
        go_ret
        exact ⟨rfl, B1⟩
    · have hkn : m = kk := by omega
      subst hkn
      have hd := HD.out
      by_cases h140 : m < 140
      · rw [decide_eq_true ⟨all_of_getD (p := fun f : Fm => f.1.length ≤ 40) (d := (([], 0) : Fm)) fun j hj => HALL.out j (by rw [L.out] at hj; omega), by rw [L.out]; exact h140⟩] at hd
        subst hd
        have d1 : decide ((m : Int) < 140) = true := decide_eq_true (by omega)
        have d2 : (m : Int) < 140 := by omega
        go_wp2
        go_ret
        exact ⟨by first | rfl | simp [d1], B0⟩
      · rw [decide_eq_false (fun hh => h140 (by rw [← L.out]; exact hh.2))] at hd
        subst hd
        have d1 : decide ((m : Int) < 140) = false := decide_eq_false (by omega)
        go_wp2
        go_ret
        exact ⟨by first | rfl | simp [d1] | (simp; omega), B0⟩
theorem linsol_walk (n : Int) (A : Option Addr) (m c : Nat) (F : List Fm) (A' : Option Addr) (m' c' : Nat) (x : List (Int × Int)) (w : World) (h : RdF w A m F) (h' : RdN w A' m' x) (hi : ∀ f ∈ F, I64F f) (hx : I64s x) :
    Calls Tryz.prog 5 #[.int .i64 n, .slice A m c, .slice A' m' c'] w fun e w' => e = .returned (.bool true) ∧ Below w.heap.size w w' := by
  have hm9 := h.2.1
  have hm' := h'.2.1
  have L := Lib.hid h.1
  have LX := Lib.hid h'.1
  have HI := Lib.hid hi
  clear hi
  go_enter Tryz.func5, Tryz.ntmps5
  go_wp2_with fail
  refine (lfew_calls A m c F _ h).mono ?_
  rintro e w1 ⟨he, hB1⟩
  have B0 := hB1
  clear hB1
  by_cases hfew : fewP F
  · rw [decide_eq_true hfew] at he
    subst he
    have hm : m ≤ 500 := by have := hfew.2; have := L.out; omega
    have HLN : Hid (∀ f ∈ F, f.1.length ≤ 1000000) := Lib.hid fun f hf => by have := hfew.1 f hf; omega
    clear hfew
    by_cases x40 : m' ≤ 40
    · have d2 : decide ((40 : Int) < (m' : Int)) = false := decide_eq_false (by omega)
      have d1 : ¬ (40 : Int) < (m' : Int) := by omega
      have HCE := lech_calls n A m c F w1 (h.below B0) HI.out HLN.out hm
      by_cases hok : OkFs n F
      · obtain ⟨nn, rfl⟩ : ∃ nn : Nat, n = nn := ⟨n.toNat, by have := hok.1.1; omega⟩
        have hn8 : nn ≤ 8 := by have := hok.1.2; omega
        have HOK := Lib.hid hok
        cases hR : rowsF nn (F.map rowF) with
        | none =>
          have hE : echF (nn : Int) F = ([], false, 0) := by unfold echF; rw [if_pos hok, Int.toNat_natCast, hR]
          rw [hE] at HCE
          have HNS := Lib.hid (no_sol hok hR x)
          clear hE hok hR
          go_wp2_with fail
          refine HCE.mono ?_
          rintro e w2 ⟨⟨A2, m2, c2, rfl, t2⟩, hB⟩
          replace B0 := bl_then B0 hB
          clear hB HCE t2
          go_wp2_with fail
          refine (r2vpoint_calls nn A' m' c' x _ (h'.below B0) hx).mono ?_
          rintro e w3 ⟨he, hB⟩
          replace B0 := bl_then B0 hB
          clear hB
          by_cases hox : OkX nn x
          · rw [decide_eq_true hox] at he
            subst he
            have hmn : m' = nn := by have h1 := hox.2.1; have h2 := LX.out; omega
            subst hmn
            go_wp2_with fail
            refine (lzero_calls m' A m c F A' c' x _ (h.below B0) (h'.below B0) hm HOK.out.2.2 hx hox).mono ?_
            rintro e w4 ⟨he, hB⟩
            rw [decide_eq_false HNS.out] at he
            subst he
            replace B0 := bl_then B0 hB
            clear hB
            go_wp2_with fail
            refine (lawake_calls _).mono ?_
            rintro e wz ⟨rfl, hBz⟩
            have Bz := bl_then B0 hBz
            go_wp2
            go_ret
            exact ⟨rfl, Bz⟩
          · rw [decide_eq_false hox] at he
            subst he
            go_wp2_with fail
            refine (lawake_calls _).mono ?_
            rintro e wz ⟨rfl, hBz⟩
            have Bz := bl_then B0 hBz
            go_wp2
            go_ret
            exact ⟨rfl, Bz⟩
        | some R =>
          by_cases hfs : fsOk R
          · have hf := sol_facts hok hR hfs
            have hE : echF (nn : Int) F = (R.map outW, true, 0) := by
              unfold echF; rw [if_pos hok, Int.toNat_natCast, hR]
              show (fsF R, fsE R == 0, fsE R) = _
              unfold fsF fsE; rw [if_pos hfs, if_pos hfs]; rfl
            have hE2 : echF (nn : Int) (R.map outW) = (R.map outW, true, 0) := by
              unfold echF; rw [if_pos hf.1, Int.toNat_natCast, hf.2.1, hf.2.2.1]
              show (fsF R, fsE R == 0, fsE R) = _
              unfold fsF fsE; rw [if_pos hfs, if_pos hfs]; rfl
            have hS : samB (nn : Int) F (R.map outW) = true ∧ samE (nn : Int) F (R.map outW) = 0 := by
              refine ⟨?_, if_pos ⟨hok, hf.1⟩⟩
              unfold samB; rw [if_pos ⟨hok, hf.1⟩, Int.toNat_natCast, hR, hf.2.1, hf.2.2.1]
              simp
            have hV : solF (nn : Int) F = (osF (solX nn R), osE (solX nn R) == 0, osE (solX nn R)) := by
              unfold solF; rw [if_pos hok, Int.toNat_natCast, hR]
            have HP := Lib.hid hf.1
            have HZ := Lib.hid hf.2.2.2.1
            have HSL := Lib.hid hf.2.2.2.2
            have hm2l : (R.map outW).length ≤ 120 := hf.1.2.1
            rw [hE] at HCE
            have HE2 := Lib.hid hE2
            have HSM := Lib.hid hS
            have HV := Lib.hid hV
            clear hE hE2 hS hV hf hok hR hfs
            generalize R.map outW = P at *
            generalize solX nn R = X at *
            have HCV := Lib.hid (fun w (h : RdF w A m F) => lsol_calls (nn : Int) A m c F w h HI.out HLN.out hm)
            rw [HV.out] at HCV
            go_wp2_with fail
            refine HCE.mono ?_
            rintro e w2 ⟨⟨A2, m2, c2, rfl, t2⟩, hB⟩
            replace B0 := bl_then B0 hB
            have hm2 : m2 ≤ 500 := by have h1 := t2.1; (try dsimp only at h1); omega
            have HI2 : Hid (∀ f ∈ P, I64F f) := Lib.hid fun f hf => i64f_of (HP.out.2.2 f hf)
            have HL2 : Hid (∀ f ∈ P, f.1.length ≤ 1000000) := Lib.hid fun f hf => by have := (HP.out.2.2 f hf).2.1; omega
            clear hB HCE
            go_wp2_with fail
            refine (r2vpoint_calls nn A' m' c' x _ (h'.below B0) hx).mono ?_
            rintro e w3 ⟨he, hB⟩
            replace B0 := bl_then B0 hB
            replace t2 := t2.below hB
            clear hB
            obtain ⟨bX, hbX⟩ : ∃ b, decide (OkX (nn : Int) x) = b := ⟨_, rfl⟩
            rw [hbX] at he
            have HBX := Lib.hid hbX
            clear hbX
            subst he
            have HCE2 := lech_calls nn A2 m2 c2 P _ t2 HI2.out HL2.out hm2
            rw [HE2.out] at HCE2
            go_wp2_with fail
            refine HCE2.mono ?_
            rintro e w4 ⟨⟨A4, m4, c4, rfl, t4⟩, hB⟩
            replace B0 := bl_then B0 hB
            replace t2 := t2.below hB
            clear hB HCE2
            have hm42 : m4 = m2 := by have h1 := t4.1; have h2 := t2.1; (try dsimp only at h1 h2); omega
            subst hm42
            have HCS := lsame_calls nn A m c F A2 m4 c2 P _ (h.below B0) HI.out HLN.out hm t2 HI2.out HL2.out hm2
            rw [HSM.out.1, HSM.out.2] at HCS
            go_wp2_with fail
            refine HCS.mono ?_
            rintro e w5 ⟨rfl, hB⟩
            replace B0 := bl_then B0 hB
            replace t2 := t2.below hB
            replace t4 := t4.below hB
            clear hB HCS
            go_wp2_with fail
            refine (lsforms_calls A2 m4 c2 A4 c4 P _ t2 t4).mono ?_
            rintro e w6 ⟨rfl, hB⟩
            replace B0 := bl_then B0 hB
            replace t2 := t2.below hB
            clear hB t4
            have TAIL : ∀ (K : Act → World → Prop), True := fun _ => trivial
            cases bX with
            | false =>
              clear TAIL
              go_wp2_with fail
              refine (HCV.out _ (h.below B0)).mono ?_
              rintro e wa ⟨⟨Aa, ma, ca, rfl, ta⟩, hB⟩
              replace B0 := bl_then B0 hB
              clear hB
              by_cases hos : osOk X
              · have hfa := HSL.out hos
                have e1 : osE X = 0 := if_pos hos
                have e2 : osF X = X.map outP := if_pos hos
                (try dsimp only at ta)
                rw [e1]
                rw [e2] at ta
                have hma : ma = nn := by have h1 := ta.1; have h2 := hfa.1.2.1; omega
                subst hma
                have hxa : I64s (X.map outP) := fun y hy => i64_of_okN (hfa.1.2.2 y hy)
                have HFA := Lib.hid hfa
                clear hfa e1 e2 hos
                go_wp2_with fail
                refine (r2vpoint_calls _ Aa _ ca (X.map outP) _ ta hxa).mono ?_
                rintro e wb ⟨he, hB⟩
                rw [decide_eq_true HFA.out.1] at he
                subst he
                replace B0 := bl_then B0 hB
                replace ta := ta.below hB
                clear hB
                go_wp2_with fail
                refine (lzero_calls _ A m c F Aa ca (X.map outP) _ (h.below B0) ta hm HOK.out.2.2 hxa HFA.out.1).mono ?_
                rintro e wd ⟨he, hB⟩
                rw [decide_eq_true HFA.out.2] at he
                subst he
                replace B0 := bl_then B0 hB
                clear hB
                go_wp2_with fail
                refine (lawake_calls _).mono ?_
                rintro e wz ⟨rfl, hBz⟩
                have Bz := bl_then B0 hBz
                go_wp2
                go_ret
                exact ⟨rfl, Bz⟩
              · have e1 : osE X = 3 := if_neg hos
                rw [e1]
                clear hos e1
                go_wp2_with fail
                refine (lawake_calls _).mono ?_
                rintro e wz ⟨rfl, hBz⟩
                have Bz := bl_then B0 hBz
                go_wp2
                go_ret
                exact ⟨rfl, Bz⟩
            | true =>
              clear TAIL
              have hox := of_decide_eq_true HBX.out
              have hmn : m' = nn := by have h1 := hox.2.1; have h2 := LX.out; omega
              subst hmn
              go_wp2_with fail
              refine (lzero_calls m' A m c F A' c' x _ (h.below B0) (h'.below B0) hm HOK.out.2.2 hx hox).mono ?_
              rintro e w7 ⟨he, hB⟩
              replace B0 := bl_then B0 hB
              replace t2 := t2.below hB
              obtain ⟨bZ, hbZ⟩ : ∃ b, decide (zerF F x m') = b := ⟨_, rfl⟩
              have hbZ2 : decide (zerF P x m') = bZ := by rw [← hbZ]; exact decide_eq_decide.2 (HZ.out x).symm
              rw [hbZ] at he
              have HBZ := Lib.hid hbZ2
              clear hbZ hbZ2 hB
              subst he
              go_wp2_with fail
              refine (lzero_calls m' A2 m4 c2 P A' c' x _ t2 (h'.below B0) hm2 HP.out.2.2 hx hox).mono ?_
              rintro e w8 ⟨he, hB⟩
              rw [HBZ.out] at he
              subst he
              replace B0 := bl_then B0 hB
              clear hB hox HBX
              have hbb : (bZ != bZ) = false := by simp
              go_wp2_with fail
              refine (HCV.out _ (h.below B0)).mono ?_
              rintro e wa ⟨⟨Aa, ma, ca, rfl, ta⟩, hB⟩
              replace B0 := bl_then B0 hB
              clear hB
              by_cases hos : osOk X
              · have hfa := HSL.out hos
                have e1 : osE X = 0 := if_pos hos
                have e2 : osF X = X.map outP := if_pos hos
                (try dsimp only at ta)
                rw [e1]
                rw [e2] at ta
                have hma : ma = m' := by have h1 := ta.1; have h2 := hfa.1.2.1; omega
                subst hma
                have hxa : I64s (X.map outP) := fun y hy => i64_of_okN (hfa.1.2.2 y hy)
                have HFA := Lib.hid hfa
                clear hfa e1 e2 hos
                go_wp2_with fail
                refine (r2vpoint_calls _ Aa _ ca (X.map outP) _ ta hxa).mono ?_
                rintro e wb ⟨he, hB⟩
                rw [decide_eq_true HFA.out.1] at he
                subst he
                replace B0 := bl_then B0 hB
                replace ta := ta.below hB
                clear hB
                go_wp2_with fail
                refine (lzero_calls _ A m c F Aa ca (X.map outP) _ (h.below B0) ta hm HOK.out.2.2 hxa HFA.out.1).mono ?_
                rintro e wd ⟨he, hB⟩
                rw [decide_eq_true HFA.out.2] at he
                subst he
                replace B0 := bl_then B0 hB
                clear hB
                go_wp2_with fail
                refine (lawake_calls _).mono ?_
                rintro e wz ⟨rfl, hBz⟩
                have Bz := bl_then B0 hBz
                go_wp2
                go_ret
                exact ⟨rfl, Bz⟩
              · have e1 : osE X = 3 := if_neg hos
                rw [e1]
                clear hos e1
                go_wp2_with fail
                refine (lawake_calls _).mono ?_
                rintro e wz ⟨rfl, hBz⟩
                have Bz := bl_then B0 hBz
                go_wp2
                go_ret
                exact ⟨rfl, Bz⟩
          · have hE : echF (nn : Int) F = ([], false, 3) := by
              unfold echF; rw [if_pos hok, Int.toNat_natCast, hR]
              show (fsF R, fsE R == 0, fsE R) = _
              unfold fsF fsE; rw [if_neg hfs, if_neg hfs]; rfl
            rw [hE] at HCE
            clear hE hok hR
            go_wp2_with fail
            refine HCE.mono ?_
            rintro e w2 ⟨⟨A2, m2, c2, rfl, t2⟩, hB⟩
            replace B0 := bl_then B0 hB
            clear hB HCE
            go_wp2_with fail
            refine (lawake_calls _).mono ?_
            rintro e wz ⟨rfl, hBz⟩
            have Bz := bl_then B0 hBz
            go_wp2
            go_ret
            exact ⟨rfl, Bz⟩
      · have hE : echF n F = ([], false, 1) := if_neg hok
        rw [hE] at HCE
        clear hE hok
        go_wp2_with fail
        refine HCE.mono ?_
        rintro e w2 ⟨⟨A2, m2, c2, rfl, t2⟩, hB⟩
        replace B0 := bl_then B0 hB
        clear hB HCE
        go_wp2_with fail
        refine (lawake_calls _).mono ?_
        rintro e wz ⟨rfl, hBz⟩
        have Bz := bl_then B0 hBz
        go_wp2
        go_ret
        exact ⟨rfl, Bz⟩
    · have d2 : decide ((40 : Int) < (m' : Int)) = true := decide_eq_true (by omega)
      have d1 : (40 : Int) < (m' : Int) := by omega
      go_wp2_with fail
      refine (lawake_calls _).mono ?_
      rintro e wz ⟨rfl, hBz⟩
      have Bz := bl_then B0 hBz
      go_wp2
      go_ret
      exact ⟨rfl, Bz⟩
  · rw [decide_eq_false hfew] at he
    subst he
    go_wp2_with fail
    refine (lawake_calls _).mono ?_
    rintro e wz ⟨rfl, hBz⟩
    have Bz := bl_then B0 hBz
    go_wp2
    go_ret
    exact ⟨rfl, Bz⟩
end Go.Proofs.YtloplmmnmehkmaaGreat
