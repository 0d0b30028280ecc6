/- reference: functions on digits. -/
import Derived.Test.YtloplmmnmehkmaaGreatInt7
import Derived.Test.YtloplmmnmehkmaaGreatQuoMath
import Derived.Test.YtloplmmnmehkmaaGreatMulMath
set_option linter.unusedVariables false
set_option linter.unusedSimpArgs false
namespace Go.Proofs.YtloplmmnmehkmaaGreat
open Go.RowKit

theorem info_int : (Tryz.prog.info? 3).map (fun i => (i.zero, i.size, i.bytes)) = some (some (.int .i64 0), 1, 8) := by kernel_rfl

theorem Left.rstop {ds : List Int} {m : Nat} (h : Left ds (m + 1)) (hd : Dig 1073741824 ds) (h0 : ¬ ds.getD m 0 = 0) : Trimmed (ds.take (m + 1)) := by
  refine .inr ?_
  have := h.le
  have hk := (hd.at m (by omega)).1
  rw [List.length_take, Nat.min_eq_left h.le, Nat.add_sub_cancel, getD_take _ _ _ (by omega)]
  omega

set_option maxHeartbeats 800000 in
set_option maxRecDepth 100000 in
theorem rtrim_calls (A : Option Addr) (n c : Nat) (ds : List Int) (w : World) (h1 : RdI w 3 .i64 A n ds) (k1 : Dig 1073741824 ds) (hc : n ≤ c) :
    Calls Tryz.prog 155 #[.slice A n c] w fun e w' => ∃ m : Nat, e = .returned (.slice A m c) ∧ m ≤ n ∧ RdI w 3 .i64 A m (ds.take m) ∧ Trimmed (ds.take m) ∧ val 1073741824 (ds.take m) = val 1073741824 ds ∧ w' = w := by
  have hl := Lib.hid h1.1
  have hn := h1.2.1
  go_enter Tryz.func155, Tryz.ntmps155
  go_wp2
  go_loop [0] (fun v => ∃ m : Nat, m ≤ n ∧ v = .slice A m c ∧ Left ds m) (fun v => match v with | .slice _ m _ => m | _ => 0)
  case atStart => exact ⟨n, Nat.le_refl _, rfl, by have := Left.start ds; rw [hl.out] at this; exact this⟩
  case round =>
    obtain ⟨m, hm, rfl, hL⟩ := hrel
    by_cases h0 : m = 0
    · subst h0
      go_wp2
      go_ret
      exact ⟨0, rfl, by omega, h1.take (by omega), .inl rfl, hL.eq _, rfl⟩
    · obtain ⟨m, rfl⟩ : ∃ k, m = k + 1 := ⟨m - 1, by omega⟩
      obtain ⟨g, off, rfl, lg, cg⟩ := h1.at_ (by omega)
      have cg1 := cg m (by omega)
      clear cg h0
      by_cases hz : ds.getD m 0 = 0
      · rw [hz] at cg1
        have hL2 := hL.step hz
        clear hz
        go_wp2
        exact ⟨⟨m, by omega, rfl, hL2⟩, by simp⟩
      · have hL2 := hL.rstop k1 hz
        have hv := Lib.hid (hL.eq 1073741824)
        generalize ds.getD m 0 = x at *
        have hz1 : (x == 0) = false := by simpa using hz
        go_wp2
        go_ret
        exact ⟨m + 1, rfl, hm, h1.take hm, hL2, hv.out, rfl⟩

set_option maxHeartbeats 800000 in
set_option maxRecDepth 100000 in
theorem rcompare_calls (A1 : Option Addr) (n1 c1 : Nat) (a : List Int) (A2 : Option Addr) (n2 c2 : Nat) (b : List Int) (w : World)
    (h1 : RdI w 3 .i64 A1 n1 a) (h2 : RdI w 3 .i64 A2 n2 b) (k1 : Dig 1073741824 a) (k2 : Dig 1073741824 b) (t1 : Trimmed a) (t2 : Trimmed b) :
    Calls Tryz.prog 129 #[.slice A1 n1 c1, .slice A2 n2 c2] w fun e w' => e = .returned (.int .i64 (val 1073741824 a - val 1073741824 b).sign) ∧ ∃ n, w' = w.drewN n := by
  have hn := h1.2.1
  have hn2 := h2.2.1
  have L1 := Lib.hid h1.1
  have L2 := Lib.hid h2.1
  rcases Nat.lt_trichotomy n1 n2 with hlt | heq | hgt
  · have q1 : (n1 != n2) = true := by simp; omega
    have q2 : ((n1 : Int) != (n2 : Int)) = true := by simp; omega
    have hs := Lib.hid (sign_lt (val_lt_len (by omega) k1 k2 t2 (by rw [L1.out, L2.out]; exact hlt)))
    go_enter Tryz.func129, Tryz.ntmps129
    go_wp2
    go_ret
    exact ⟨by rw [hs.out]; rfl, 0, rfl⟩
  · subst heq
    go_enter Tryz.func129, Tryz.ntmps129
    go_wp2
    go_loopw [5] (fun v wr => ∃ k : Nat, k ≤ n1 ∧ v = .int .i64 ((k : Int) - 1) ∧ Hid (a.drop k = b.drop k) ∧ ∃ nq, wr = w.drewN nq) (fun v _ => (intOf v + 1).toNat)
    case atStart => exact ⟨n1, Nat.le_refl _, rfl, by unfold Hid; rw [List.drop_of_length_le (by rw [L1.out]; omega), List.drop_of_length_le (by rw [L2.out]; omega)], 0, rfl⟩
    case round =>
      obtain ⟨k, hk, rfl, hd, nq, rfl⟩ := hrel
      by_cases h0 : k = 0
      · subst h0
        have hs := Lib.hid (sign_eq (congrArg (val 1073741824) (show a = b by have := hd.out; simpa using this)))
        go_wp2
        go_ret
        exact ⟨by rw [hs.out]; rfl, _, rfl⟩
      · obtain ⟨k, rfl⟩ : ∃ j, k = j + 1 := ⟨k - 1, by omega⟩
        have e1 : ((k + 1 : Nat) : Int) - 1 = (k : Int) := by omega
        rw [e1]
        clear e1 h0
        obtain ⟨g1, o1, rfl, lg1, cg1⟩ := h1.at_ (by omega)
        obtain ⟨g2, o2, rfl, lg2, cg2⟩ := h2.at_ (by omega)
        have ca := cg1 k (by omega)
        have cb := cg2 k (by omega)
        clear cg1 cg2
        have M1 := Lib.hid (fun h => sign_lt (val_lt_at (B := 1073741824) (by omega) k1 k2 (by rw [L1.out, L2.out]) k (by rw [L1.out]; omega) hd.out h))
        have M2 := Lib.hid (fun h => sign_gt (val_lt_at (B := 1073741824) (by omega) k2 k1 (by rw [L1.out, L2.out]) k (by rw [L2.out]; omega) hd.out.symm h))
        have M3 := Lib.hid (fun h : a.getD k 0 = b.getD k 0 => show a.drop k = b.drop k by rw [drop_getD a k (by rw [L1.out]; omega), drop_getD b k (by rw [L2.out]; omega), h, hd.out])
        have k10 := k1.at k (by omega)
        have k20 := k2.at k (by omega)
        generalize a.getD k 0 = x at *
        generalize b.getD k 0 = y at *
        rcases Int.lt_trichotomy x y with hxy | hxy | hxy
        · have hne : (x != y) = true := by simp; omega
          have hlt : decide (x < y) = true := by simp; omega
          go_wp2
          go_quiet (fail)
          go_wp2
          go_ret
          exact ⟨by rw [M1.out hxy]; rfl, by simp only [World.drewN_drewN]; exact ⟨_, rfl⟩⟩
        · have hd2 := Lib.hid (M3.out hxy)
          subst hxy
          have hne : (x != x) = false := by simp
          have hlt : decide (x < x) = false := by simp
          go_wp2
          go_quiet (fail)
          go_wp2
          go_quiet (fail)
          go_wp2
          go_roundw
          case rel => exact ⟨k, by omega, rfl, hd2, by first | exact ⟨_, rfl⟩ | (simp only [World.drewN_drewN]; exact ⟨_, rfl⟩)⟩
          case measure => simp [intOf]
        · have hne : (x != y) = true := by simp; omega
          have hlt : decide (x < y) = false := by simp; omega
          go_wp2
          go_quiet (fail)
          go_wp2
          go_quiet (fail)
          go_wp2
          go_ret
          exact ⟨by rw [M2.out hxy]; rfl, by simp only [World.drewN_drewN]; exact ⟨_, rfl⟩⟩
  · have q1 : (n1 != n2) = true := by simp; omega
    have q2 : ((n1 : Int) != (n2 : Int)) = true := by simp; omega
    have hs := Lib.hid (sign_gt (val_lt_len (by omega) k2 k1 t1 (by rw [L1.out, L2.out]; exact hgt)))
    go_enter Tryz.func129, Tryz.ntmps129
    go_wp2
    go_ret
    exact ⟨by rw [hs.out]; rfl, 0, rfl⟩


/-- The state of sum behind k digits. -/
structure RPlus (a b : List Int) (k : Nat) (ds : List Int) (cy : Int) : Prop where
  c0 : 0 ≤ cy
  c1 : cy ≤ 1
  len : ds.length = k
  dig : Dig 1073741824 ds
  last : max a.length b.length < k → cy = 0
  eq : val 1073741824 ds + 1073741824 ^ k * cy = val 1073741824 (a.take k) + val 1073741824 (b.take k)
theorem RPlus.start (a b : List Int) : RPlus a b 0 [] 0 := ⟨by omega, by omega, rfl, Dig.nil, fun _ => rfl, by simp [val]⟩
theorem getD_beyond (l : List Int) (k : Nat) (h : l.length ≤ k) : l.getD k 0 = 0 := by rw [List.getD_eq_getElem?_getD, List.getElem?_eq_none (by omega)]; rfl
theorem RPlus.step {a b : List Int} {k : Nat} {ds : List Int} {cy : Int} (h : RPlus a b k ds cy) (ha : Dig 1073741824 a) (hb : Dig 1073741824 b) :
    RPlus a b (k + 1) (ds ++ [(cy + a.getD k 0 + b.getD k 0) % 1073741824]) ((cy + a.getD k 0 + b.getD k 0) / 1073741824) := by
  have h1 := ha.at k (by omega)
  have h2 := hb.at k (by omega)
  have c0 := h.c0
  have c1 := h.c1
  refine ⟨by omega, by omega, by simp [h.len], h.dig.append (Dig.one (by omega) (by omega)), fun hk => ?_, ?_⟩
  · rw [getD_beyond a k (by omega), getD_beyond b k (by omega)]
    omega
  rw [val_append, val_take_any, val_take_any, h.len, Int.pow_succ]
  have e := h.eq
  have m := Int.emod_add_mul_ediv (cy + a.getD k 0 + b.getD k 0) 1073741824
  generalize (cy + a.getD k 0 + b.getD k 0) / 1073741824 = q at *
  generalize (cy + a.getD k 0 + b.getD k 0) % 1073741824 = r at *
  generalize (1073741824 : Int) ^ k = p at *
  simp only [val]
  grind
theorem RPlus.stop {a b : List Int} {k : Nat} {ds : List Int} {cy : Int} (h : RPlus a b k ds cy) (ha : a.length ≤ k) (hb : b.length ≤ k) (hc : cy = 0) :
    val 1073741824 ds = val 1073741824 a + val 1073741824 b := by
  have e := h.eq
  rw [List.take_of_length_le ha, List.take_of_length_le hb, hc] at e
  omega

set_option maxHeartbeats 800000 in
set_option maxRecDepth 100000 in
theorem rsum_calls (A1 : Option Addr) (n1 c1 : Nat) (a : List Int) (A2 : Option Addr) (n2 c2 : Nat) (b : List Int) (w : World)
    (g1 : RdI w 3 .i64 A1 n1 a) (g2 : RdI w 3 .i64 A2 n2 b) (k1 : Dig 1073741824 a) (k2 : Dig 1073741824 b) (b1 : n1 ≤ 1000000001) (b2 : n2 ≤ 1000000001) :
    Calls Tryz.prog 128 #[.slice A1 n1 c1, .slice A2 n2 c2] w fun e w' => ∃ (A : Option Addr) (n c : Nat) (ds : List Int), e = .returned (.slice A n c) ∧ n ≤ c ∧ n ≤ max n1 n2 + 1 ∧ RdI w' 3 .i64 A n ds ∧ Dig 1073741824 ds ∧ val 1073741824 ds = val 1073741824 a + val 1073741824 b ∧ Below w.heap.size w w' := by
  have I := info_int
  have HI := Lib.hid I
  clear I
  have hid := Lib.hid (And.intro k1 k2)
  have L1 := Lib.hid g1.1
  have L2 := Lib.hid g2.1
  clear k1 k2
  have B0 := Below.refl w.heap.size w
  go_enter Tryz.func128, Tryz.ntmps128
  go_wp2
  go_loopw [5, 6, 7] (fun v c i wr => ∃ (k : Nat) (ds : List Int) (cy : Int), k ≤ max n1 n2 + 1 ∧ i = .int .i64 k ∧ c = .int .i64 cy ∧ RPlus a b k ds cy ∧ wr.ownsRow w.heap.size 3 1 v ds.length (ints .i64 ds) ∧ Below w.heap.size w wr) (fun _ _ i _ => max n1 n2 + 1 - (intOf i).toNat)
  case atStart => exact ⟨0, [], 0, Nat.zero_le _, rfl, rfl, RPlus.start _ _, ⟨rfl, .inl ⟨rfl, rfl⟩⟩, B0⟩
  case round =>
    clear B0
    obtain ⟨k, ds, cy, hk, rfl, rfl, hp, ho, hB⟩ := hrel
    have hc0 := hp.c0
    have hc1 := hp.c1
    have hl := Lib.hid hp.len
    have hs := hp.step hid.out.1 hid.out.2
    have da := hid.out.1.at k (by omega)
    have db := hid.out.2.at k (by omega)
    by_cases hlt : k < n1
    · skip
      obtain ⟨ga, oa, rfl, la, ca⟩ := g1.at_ (by omega)
      have ca1 : wr.cell? ⟨ga, oa + k, none⟩ = some (.int .i64 (a.getD k 0)) := (hB.cell (p := ⟨ga, oa + k, none⟩) la).trans (ca k hlt)
      clear ca
      by_cases hl2 : k < n2
      · skip
        obtain ⟨gb, ob, rfl, lb, cb⟩ := g2.at_ (by omega)
        have cb1 : wr.cell? ⟨gb, ob + k, none⟩ = some (.int .i64 (b.getD k 0)) := (hB.cell (p := ⟨gb, ob + k, none⟩) lb).trans (cb k hl2)
        clear cb
        generalize a.getD k 0 = x at *
        generalize b.getD k 0 = y at *
        go_wp2_with (at_builtin; refine append_num w.heap.size rfl _ _ 42 3 .i64 8 rfl Tryz.underlying42 HI.out (by omega) u5 ds _ rfl rfl ho hB hB.size (by have := hl.out; omega) ?_; intro v1 w2 ho2 hB2)
        go_roundw
        case rel => exact ⟨k + 1, _, _, by omega, by go_num, rfl, hs, ho2, hB2⟩
        case measure => simp [intOf]; omega
      · skip
        have hb0 := getD_beyond b k (by have := L2.out; omega)
        rw [hb0, Int.add_zero] at hs
        clear hb0 db
        generalize a.getD k 0 = x at *
        go_wp2_with (at_builtin; refine append_num w.heap.size rfl _ _ 42 3 .i64 8 rfl Tryz.underlying42 HI.out (by omega) u5 ds _ rfl rfl ho hB hB.size (by have := hl.out; omega) ?_; intro v1 w2 ho2 hB2)
        go_roundw
        case rel => exact ⟨k + 1, _, _, by omega, by go_num, rfl, hs, ho2, hB2⟩
        case measure => simp [intOf]; omega
    · by_cases hl2 : k < n2
      · skip
        obtain ⟨gb, ob, rfl, lb, cb⟩ := g2.at_ (by omega)
        have cb1 : wr.cell? ⟨gb, ob + k, none⟩ = some (.int .i64 (b.getD k 0)) := (hB.cell (p := ⟨gb, ob + k, none⟩) lb).trans (cb k hl2)
        clear cb
        have ha0 := getD_beyond a k (by have := L1.out; omega)
        rw [ha0, Int.add_zero] at hs
        clear ha0 da
        generalize b.getD k 0 = y at *
        go_wp2_with (at_builtin; refine append_num w.heap.size rfl _ _ 42 3 .i64 8 rfl Tryz.underlying42 HI.out (by omega) u5 ds _ rfl rfl ho hB hB.size (by have := hl.out; omega) ?_; intro v1 w2 ho2 hB2)
        go_roundw
        case rel => exact ⟨k + 1, _, _, by omega, by go_num, rfl, hs, ho2, hB2⟩
        case measure => simp [intOf]; omega
      · skip
        have ha0 := getD_beyond a k (by have := L1.out; omega)
        rw [ha0, Int.add_zero] at hs
        clear ha0 da
        have hb0 := getD_beyond b k (by have := L2.out; omega)
        rw [hb0, Int.add_zero] at hs
        clear hb0 db
        have hmax : max n1 n2 ≤ k := by omega
        have hlast := hp.last
        rw [L1.out, L2.out] at hlast
        rcases (show cy = 0 ∨ cy = 1 by omega) with rfl | rfl
        · have hst := Lib.hid (hp.stop (by rw [L1.out]; omega) (by rw [L2.out]; omega) rfl)
          have hdg := hp.dig
          obtain ⟨A, c, rfl, hc, hr, hn⟩ := RdI.own ho
          clear hn
          have hll : ds.length = k := hl.out
          go_wp2
          go_ret
          exact ⟨A, _, c, rfl, by omega, by omega, _, by rw [← hll]; exact hr, hdg, hst.out, hB⟩
        · have hk2 : k ≤ max n1 n2 := by
            rcases Nat.lt_or_ge (max n1 n2) k with h | h
            · exact absurd (hlast h) (by omega)
            · exact h
          clear hlast
          go_wp2_with (at_builtin; refine append_num w.heap.size rfl _ _ 42 3 .i64 8 rfl Tryz.underlying42 HI.out (by omega) u5 ds _ rfl rfl ho hB hB.size (by have := hl.out; omega) ?_; intro v1 w2 ho2 hB2)
          go_roundw
          case rel => exact ⟨k + 1, _, _, by omega, by go_num, rfl, hs, ho2, hB2⟩
          case measure => simp [intOf]; omega

/-- The state of difference behind k digits. The carry is 0 or -1. -/
structure RMinus (a b : List Int) (k : Nat) (ds : List Int) (cy : Int) : Prop where
  c0 : -1 ≤ cy
  c1 : cy ≤ 0
  len : ds.length = k
  dig : Dig 1073741824 ds
  eq : val 1073741824 ds = val 1073741824 (a.take k) - val 1073741824 (b.take k) - 1073741824 ^ k * cy
theorem RMinus.start (a b : List Int) : RMinus a b 0 [] 0 := ⟨by omega, by omega, rfl, Dig.nil, by simp [val]⟩
theorem RMinus.step {a b : List Int} {k : Nat} {ds : List Int} {cy : Int} (h : RMinus a b k ds cy) (ha : Dig 1073741824 a) (hb : Dig 1073741824 b) :
    (cy + a.getD k 0 - b.getD k 0 < 0 → RMinus a b (k + 1) (ds ++ [cy + a.getD k 0 - b.getD k 0 + 1073741824]) (-1)) ∧
    (0 ≤ cy + a.getD k 0 - b.getD k 0 → RMinus a b (k + 1) (ds ++ [cy + a.getD k 0 - b.getD k 0]) 0) := by
  have h1 := ha.at k (by omega)
  have h2 := hb.at k (by omega)
  have c0 := h.c0
  have c1 := h.c1
  have e := h.eq
  constructor
  · intro hlt
    refine ⟨by omega, by omega, by simp [h.len], h.dig.append (Dig.one (by omega) (by omega)), ?_⟩
    rw [val_append, val_take_any, val_take_any, h.len, Int.pow_succ]
    generalize (1073741824 : Int) ^ k = p at *
    simp only [val]
    grind
  · intro hlt
    refine ⟨by omega, by omega, by simp [h.len], h.dig.append (Dig.one (by omega) (by omega)), ?_⟩
    rw [val_append, val_take_any, val_take_any, h.len, Int.pow_succ]
    generalize (1073741824 : Int) ^ k = p at *
    simp only [val]
    grind
theorem RMinus.stop {a b : List Int} {ds : List Int} {cy : Int} (h : RMinus a b a.length ds cy) (hb : ∀ i, a.length ≤ i → b.getD i 0 = 0) (hv : val 1073741824 b ≤ val 1073741824 a) :
    ds.length = a.length ∧ Dig 1073741824 ds ∧ val 1073741824 ds = val 1073741824 a - val 1073741824 b := by
  have e := h.eq
  rw [List.take_of_length_le (Nat.le_refl _), val_take_of_zero _ b _ hb] at e
  have l := val_lt (by omega) h.dig
  rw [h.len] at l
  have : cy = 0 := by
    have := h.c0
    have := h.c1
    rcases (show cy = 0 ∨ cy = -1 by omega) with c | c
    · exact c
    · rw [c] at e; omega
  refine ⟨h.len, h.dig, by rw [e, this]; simp⟩

set_option maxHeartbeats 800000 in
set_option maxRecDepth 100000 in
theorem rdifference_calls (A1 : Option Addr) (n1 c1 : Nat) (a : List Int) (A2 : Option Addr) (n2 c2 : Nat) (b : List Int) (w : World)
    (g1 : RdI w 3 .i64 A1 n1 a) (g2 : RdI w 3 .i64 A2 n2 b) (k1 : Dig 1073741824 a) (k2 : Dig 1073741824 b) (b1 : n1 ≤ 1000000001) (hz : ∀ i, a.length ≤ i → b.getD i 0 = 0) (hv : val 1073741824 b ≤ val 1073741824 a) :
    Calls Tryz.prog 130 #[.slice A1 n1 c1, .slice A2 n2 c2] w fun e w' => ∃ (A : Option Addr) (n c : Nat) (ds : List Int), e = .returned (.slice A n c) ∧ n ≤ c ∧ n = n1 ∧ RdI w' 3 .i64 A n ds ∧ Dig 1073741824 ds ∧ val 1073741824 ds = val 1073741824 a - val 1073741824 b ∧ Below w.heap.size w w' := by
  have I := info_int
  have HI := Lib.hid I
  clear I
  have hid := Lib.hid (And.intro k1 k2)
  have HV := Lib.hid (And.intro hz hv)
  have L1 := Lib.hid g1.1
  have L2 := Lib.hid g2.1
  clear k1 k2 hv hz
  have B0 := Below.refl w.heap.size w
  go_enter Tryz.func130, Tryz.ntmps130
  go_wp2
  go_loopw [5, 6, 10] (fun v c i wr => ∃ (k : Nat) (ds : List Int) (cy : Int), k ≤ n1 ∧ i = .int .i64 k ∧ c = .int .i64 cy ∧ RMinus a b k ds cy ∧ wr.ownsRow w.heap.size 3 1 v ds.length (ints .i64 ds) ∧ Below w.heap.size w wr) (fun _ _ i _ => n1 - (intOf i).toNat)
  case atStart => exact ⟨0, [], 0, Nat.zero_le _, rfl, rfl, RMinus.start _ _, ⟨rfl, .inl ⟨rfl, rfl⟩⟩, B0⟩
  case round =>
    clear B0
    obtain ⟨k, ds, cy, hk, rfl, rfl, hp, ho, hB⟩ := hrel
    have hc0 := hp.c0
    have hc1 := hp.c1
    have hl := Lib.hid hp.len
    have hs := hp.step hid.out.1 hid.out.2
    have da := hid.out.1.at k (by omega)
    have db := hid.out.2.at k (by omega)
    by_cases hlt : k < n1
    · obtain ⟨ga, oa, rfl, la, ca⟩ := g1.at_ (by omega)
      have ca1 : wr.cell? ⟨ga, oa + k, none⟩ = some (.int .i64 (a.getD k 0)) := (hB.cell (p := ⟨ga, oa + k, none⟩) la).trans (ca k hlt)
      clear ca
      by_cases hl2 : k < n2
      · obtain ⟨gb, ob, rfl, lb, cb⟩ := g2.at_ (by omega)
        have cb1 : wr.cell? ⟨gb, ob + k, none⟩ = some (.int .i64 (b.getD k 0)) := (hB.cell (p := ⟨gb, ob + k, none⟩) lb).trans (cb k hl2)
        clear cb
        generalize a.getD k 0 = x at *
        generalize b.getD k 0 = y at *
        by_cases hneg : cy + x - y < 0
        · have hs1 := hs.1 hneg
          clear hs
          go_wp2_with (at_builtin; refine append_num w.heap.size rfl _ _ 42 3 .i64 8 rfl Tryz.underlying42 HI.out (by omega) u5 ds _ rfl rfl ho hB hB.size (by have := hl.out; omega) ?_; intro v1 w2 ho2 hB2)
          go_roundw
          case rel => exact ⟨k + 1, _, _, by omega, by go_num, rfl, hs1, ho2, hB2⟩
          case measure => simp [intOf]; omega
        · have hs1 := hs.2 (by omega)
          clear hs
          go_wp2_with (at_builtin; refine append_num w.heap.size rfl _ _ 42 3 .i64 8 rfl Tryz.underlying42 HI.out (by omega) u5 ds _ rfl rfl ho hB hB.size (by have := hl.out; omega) ?_; intro v1 w2 ho2 hB2)
          go_roundw
          case rel => exact ⟨k + 1, _, _, by omega, by go_num, rfl, hs1, ho2, hB2⟩
          case measure => simp [intOf]; omega
      · have hb0 := getD_beyond b k (by have := L2.out; omega)
        rw [hb0, Int.sub_zero] at hs
        clear hb0 db
        generalize a.getD k 0 = x at *
        by_cases hneg : cy + x < 0
        · have hs1 := hs.1 hneg
          clear hs
          go_wp2_with (at_builtin; refine append_num w.heap.size rfl _ _ 42 3 .i64 8 rfl Tryz.underlying42 HI.out (by omega) u5 ds _ rfl rfl ho hB hB.size (by have := hl.out; omega) ?_; intro v1 w2 ho2 hB2)
          go_roundw
          case rel => exact ⟨k + 1, _, _, by omega, by go_num, rfl, hs1, ho2, hB2⟩
          case measure => simp [intOf]; omega
        · have hs1 := hs.2 (by omega)
          clear hs
          go_wp2_with (at_builtin; refine append_num w.heap.size rfl _ _ 42 3 .i64 8 rfl Tryz.underlying42 HI.out (by omega) u5 ds _ rfl rfl ho hB hB.size (by have := hl.out; omega) ?_; intro v1 w2 ho2 hB2)
          go_roundw
          case rel => exact ⟨k + 1, _, _, by omega, by go_num, rfl, hs1, ho2, hB2⟩
          case measure => simp [intOf]; omega
    · have hk1 : k = n1 := by omega
      subst hk1
      have hst := hp
      rw [← L1.out] at hst
      have hst := Lib.hid (hst.stop HV.out.1 HV.out.2)
      obtain ⟨A, c, rfl, hc, hr, hn⟩ := RdI.own ho
      clear hn
      have hll : ds.length = k := hl.out
      go_wp2
      go_ret
      exact ⟨A, _, c, _, rfl, by omega, hll, hr, hst.out.2.1, hst.out.2.2, hB⟩
end Go.Proofs.YtloplmmnmehkmaaGreat
