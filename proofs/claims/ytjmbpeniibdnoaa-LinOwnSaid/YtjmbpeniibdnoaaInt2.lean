/- exact: trim, compare, minus. -/
import Derived.Test.YtjmbpeniibdnoaaInt1
set_option linter.unusedVariables false
set_option linter.unusedSimpArgs false
namespace Go.Proofs.Ytjmbpeniibdnoaa
open Go.RowKit

/-- What is left of digits when m of them stay and the others are zeros. -/
structure Left (ds : List Int) (m : Nat) : Prop where
  le : m ≤ ds.length
  zero : ∀ i, m ≤ i → ds.getD i 0 = 0
theorem Left.start (ds : List Int) : Left ds ds.length := ⟨Nat.le_refl _, fun i hi => by rw [List.getD_eq_getElem?_getD, List.getElem?_eq_none (by omega)]; rfl⟩
theorem Left.step {ds : List Int} {m : Nat} (h : Left ds (m + 1)) (h0 : ds.getD m 0 = 0) : Left ds m := ⟨by have := h.le; omega, fun i hi => by
  rcases Nat.eq_or_lt_of_le hi with e | e
  · rw [← e]; exact h0
  · exact h.zero i e⟩
theorem Left.eq {ds : List Int} {m : Nat} (h : Left ds m) (B : Int) : val B (ds.take m) = val B ds := val_take_of_zero B ds m h.zero
theorem getD_take (l : List Int) (m i : Nat) (h : i < m) : (l.take m).getD i 0 = l.getD i 0 := by
  simp [List.getD_eq_getElem?_getD, List.getElem?_take, h]
theorem Left.stop {ds : List Int} {m : Nat} (h : Left ds (m + 1)) (hd : Dig 4294967296 ds) (h0 : ¬ ds.getD m 0 = 0) : Trimmed (ds.take (m + 1)) := by
  refine .inr ?_
  have := h.le
  have hk := (hd.at m (by omega)).1
  rw [List.length_take, Nat.min_eq_left h.le, Nat.add_sub_cancel, getD_take _ _ _ (by omega)]
  omega

set_option maxHeartbeats 800000 in
set_option maxRecDepth 100000 in
theorem trim_calls (A : Option Addr) (n c : Nat) (ds : List Int) (w : World) (h1 : RdI w 118 .u32 A n ds) (k1 : Dig 4294967296 ds) (hc : n ≤ c) :
    Calls Try.prog 85 #[.slice A n c] w fun e w' => ∃ m : Nat, e = .returned (.slice A m c) ∧ m ≤ n ∧ RdI w 118 .u32 A m (ds.take m) ∧ Trimmed (ds.take m) ∧ val 4294967296 (ds.take m) = val 4294967296 ds ∧ w' = w := by
  have hl := Lib.hid h1.1
  have hn := h1.2.1
  go_enter Try.func85, Try.ntmps85
  go_wp2
  go_loop [0] (fun v => ∃ m : Nat, m ≤ n ∧ v = .slice A m c ∧ Left ds m) (fun v => match v with | .slice _ m _ => m | _ => 0)
  case atStart => exact ⟨n, Nat.le_refl _, rfl, by have := Left.start ds; rw [hl.out] at this; exact this⟩
  case round =>
    obtain ⟨m, hm, rfl, hL⟩ := hrel
    by_cases h0 : m = 0
    · subst h0
      go_wp2
      go_ret
      exact ⟨0, rfl, by omega, h1.take (by omega), .inl rfl, hL.eq _, rfl⟩
    · obtain ⟨m, rfl⟩ : ∃ k, m = k + 1 := ⟨m - 1, by omega⟩
      obtain ⟨g, off, rfl, lg, cg⟩ := h1.at_ (by omega)
      have cg1 := cg m (by omega)
      clear cg h0
      by_cases hz : ds.getD m 0 = 0
      · rw [hz] at cg1
        have hL2 := hL.step hz
        clear hz
        go_wp2
        exact ⟨⟨m, by omega, rfl, hL2⟩, by simp⟩
      · have hL2 := hL.stop k1 hz
        have hv := Lib.hid (hL.eq 4294967296)
        generalize ds.getD m 0 = x at *
        have hz1 : (x == 0) = false := by simpa using hz
        go_wp2
        go_ret
        exact ⟨m + 1, rfl, hm, h1.take hm, hL2, hv.out, rfl⟩

/-- Three outcomes of a comparison. -/
theorem sign_lt {x y : Int} (h : x < y) : (x - y).sign = -1 := Int.sign_eq_neg_one_of_neg (by omega)
theorem sign_gt {x y : Int} (h : y < x) : (x - y).sign = 1 := Int.sign_eq_one_of_pos (by omega)
theorem sign_eq {x y : Int} (h : x = y) : (x - y).sign = 0 := by subst h; simp

set_option maxHeartbeats 800000 in
set_option maxRecDepth 100000 in
theorem compare_calls (A1 : Option Addr) (n1 c1 : Nat) (a : List Int) (A2 : Option Addr) (n2 c2 : Nat) (b : List Int) (w : World)
    (h1 : RdI w 118 .u32 A1 n1 a) (h2 : RdI w 118 .u32 A2 n2 b) (k1 : Dig 4294967296 a) (k2 : Dig 4294967296 b) (t1 : Trimmed a) (t2 : Trimmed b) :
    Calls Try.prog 77 #[.slice A1 n1 c1, .slice A2 n2 c2] w fun e w' => e = .returned (.int .i64 (val 4294967296 a - val 4294967296 b).sign) ∧ ∃ n, w' = w.drewN n := by
  have hn := h1.2.1
  have hn2 := h2.2.1
  have L1 := Lib.hid h1.1
  have L2 := Lib.hid h2.1
  rcases Nat.lt_trichotomy n1 n2 with hlt | heq | hgt
  · have q1 : (n1 != n2) = true := by simp; omega
    have q2 : ((n1 : Int) != (n2 : Int)) = true := by simp; omega
    have hs := Lib.hid (sign_lt (val_lt_len (by omega) k1 k2 t2 (by rw [L1.out, L2.out]; exact hlt)))
    go_enter Try.func77, Try.ntmps77
    go_wp2
    go_ret
    exact ⟨by rw [hs.out]; rfl, 0, rfl⟩
  · subst heq
    go_enter Try.func77, Try.ntmps77
    go_wp2
    go_loopw [5] (fun v wr => ∃ k : Nat, k ≤ n1 ∧ v = .int .i64 ((k : Int) - 1) ∧ Hid (a.drop k = b.drop k) ∧ ∃ nq, wr = w.drewN nq) (fun v _ => (intOf v + 1).toNat)
    case atStart => exact ⟨n1, Nat.le_refl _, rfl, by unfold Hid; rw [List.drop_of_length_le (by rw [L1.out]; omega), List.drop_of_length_le (by rw [L2.out]; omega)], 0, rfl⟩
    case round =>
      obtain ⟨k, hk, rfl, hd, nq, rfl⟩ := hrel
      by_cases h0 : k = 0
      · subst h0
        have hs := Lib.hid (sign_eq (congrArg (val 4294967296) (show a = b by have := hd.out; simpa using this)))
        go_wp2
        go_ret
        exact ⟨by rw [hs.out]; rfl, _, rfl⟩
      · obtain ⟨k, rfl⟩ : ∃ j, k = j + 1 := ⟨k - 1, by omega⟩
        have e1 : ((k + 1 : Nat) : Int) - 1 = (k : Int) := by omega
        rw [e1]
        clear e1 h0
        obtain ⟨g1, o1, rfl, lg1, cg1⟩ := h1.at_ (by omega)
        obtain ⟨g2, o2, rfl, lg2, cg2⟩ := h2.at_ (by omega)
        have ca := cg1 k (by omega)
        have cb := cg2 k (by omega)
        clear cg1 cg2
        have M1 := Lib.hid (fun h => sign_lt (val_lt_at (B := 4294967296) (by omega) k1 k2 (by rw [L1.out, L2.out]) k (by rw [L1.out]; omega) hd.out h))
        have M2 := Lib.hid (fun h => sign_gt (val_lt_at (B := 4294967296) (by omega) k2 k1 (by rw [L1.out, L2.out]) k (by rw [L2.out]; omega) hd.out.symm h))
        have M3 := Lib.hid (fun h : a.getD k 0 = b.getD k 0 => show a.drop k = b.drop k by rw [drop_getD a k (by rw [L1.out]; omega), drop_getD b k (by rw [L2.out]; omega), h, hd.out])
        have k10 := k1.at k (by omega)
        have k20 := k2.at k (by omega)
        generalize a.getD k 0 = x at *
        generalize b.getD k 0 = y at *
        rcases Int.lt_trichotomy x y with hxy | hxy | hxy
        · have hne : (x != y) = true := by simp; omega
          have hlt : decide (x < y) = true := by simp; omega
          go_wp2
          go_quiet (fail)
          go_wp2
          go_quiet (fail)
          go_wp2
          go_ret
          exact ⟨by rw [M1.out hxy]; rfl, by simp only [World.drewN_drewN]; exact ⟨_, rfl⟩⟩
        · have hd2 := Lib.hid (M3.out hxy)
          subst hxy
          have hne : (x != x) = false := by simp
          go_wp2
          go_quiet (fail)
          go_wp2
          go_roundw
          case rel => exact ⟨k, by omega, rfl, hd2, by first | exact ⟨_, rfl⟩ | (simp only [World.drewN_drewN]; exact ⟨_, rfl⟩)⟩
          case measure => simp [intOf]
        · have hne : (x != y) = true := by simp; omega
          have hlt : decide (x < y) = false := by simp; omega
          go_wp2
          go_quiet (fail)
          go_wp2
          go_quiet (fail)
          go_wp2
          go_ret
          exact ⟨by rw [M2.out hxy]; rfl, by simp only [World.drewN_drewN]; exact ⟨_, rfl⟩⟩
  · have q1 : (n1 != n2) = true := by simp; omega
    have q2 : ((n1 : Int) != (n2 : Int)) = true := by simp; omega
    have hs := Lib.hid (sign_gt (val_lt_len (by omega) k2 k1 t1 (by rw [L1.out, L2.out]; exact hgt)))
    go_enter Try.func77, Try.ntmps77
    go_wp2
    go_ret
    exact ⟨by rw [hs.out]; rfl, 0, rfl⟩

/-- The state of minus behind k digits. -/
structure Minus (a b : List Int) (k : Nat) (ds : List Int) (cy : Int) : Prop where
  c0 : 0 ≤ cy
  c1 : cy ≤ 1
  len : ds.length = k
  dig : Dig 4294967296 ds
  eq : val 4294967296 ds = val 4294967296 (a.take k) - val 4294967296 (b.take k) + 4294967296 ^ k * cy

theorem Minus.start (a b : List Int) : Minus a b 0 [] 0 := ⟨by omega, by omega, rfl, Dig.nil, by simp [val]⟩
theorem Minus.step {a b : List Int} {k : Nat} {ds : List Int} {cy : Int} (h : Minus a b k ds cy) (ha : Dig 4294967296 a) (hb : Dig 4294967296 b) :
    Minus a b (k + 1) (ds ++ [(a.getD k 0 - b.getD k 0 - cy) % 4294967296]) (if a.getD k 0 - b.getD k 0 - cy < 0 then 1 else 0) := by
  have h1 := ha.at k (by omega)
  have h2 := hb.at k (by omega)
  have c0 := h.c0
  have c1 := h.c1
  refine ⟨by split <;> omega, by split <;> omega, by simp [h.len], h.dig.append (Dig.one (by omega) (by omega)), ?_⟩
  rw [val_append, val_take_any, val_take_any, h.len, Int.pow_succ]
  have e := h.eq
  have m : (a.getD k 0 - b.getD k 0 - cy) % 4294967296 = a.getD k 0 - b.getD k 0 - cy + 4294967296 * (if a.getD k 0 - b.getD k 0 - cy < 0 then 1 else 0) := by split <;> omega
  rw [m]
  generalize (if a.getD k 0 - b.getD k 0 - cy < 0 then 1 else 0 : Int) = q at *
  generalize (4294967296 : Int) ^ k = p at *
  simp only [val]
  grind
theorem Minus.stop {a b : List Int} {ds : List Int} {cy : Int} (h : Minus a b a.length ds cy) (hb : b.length ≤ a.length) (hv : val 4294967296 b ≤ val 4294967296 a) :
    ds.length = a.length ∧ Dig 4294967296 ds ∧ val 4294967296 ds = val 4294967296 a - val 4294967296 b := by
  have e := h.eq
  rw [List.take_of_length_le (Nat.le_refl _), List.take_of_length_le hb] at e
  have l := val_lt (by omega) h.dig
  rw [h.len] at l
  have : cy = 0 := by
    have := h.c0
    have := h.c1
    rcases (show cy = 0 ∨ cy = 1 by omega) with c | c
    · exact c
    · rw [c] at e; omega
  refine ⟨h.len, h.dig, by rw [e, this]; simp⟩

set_option maxHeartbeats 800000 in
set_option maxRecDepth 100000 in
theorem minus_calls (X1 : Option Addr) (m1 d1 : Nat) (a' : List Int) (X2 : Option Addr) (m2 d2 : Nat) (b' : List Int) (wc : World)
    (g1 : RdI wc 118 .u32 X1 m1 a') (g2 : RdI wc 118 .u32 X2 m2 b') (k1 : Dig 4294967296 a') (k2 : Dig 4294967296 b') (hm1 : m1 ≤ 1000000000) (hm2 : m2 ≤ m1) (hv : val 4294967296 b' ≤ val 4294967296 a') :
    Calls Try.prog 84 #[.slice X1 m1 d1, .slice X2 m2 d2] wc fun e w' => ∃ (A : Option Addr) (n c : Nat) (ds : List Int), e = .returned (.slice A n c) ∧ A ≠ none ∧ n ≤ c ∧ n = m1 ∧ RdI w' 118 .u32 A n ds ∧ Dig 4294967296 ds ∧ val 4294967296 ds = val 4294967296 a' - val 4294967296 b' ∧ Below wc.heap.size wc w' := by
  have I := info_u32
  have HI := Lib.hid I
  clear I
  have hid := Lib.hid (And.intro k1 k2)
  have hvv := Lib.hid hv
  clear k1 k2 hv
  have B0 := Below.refl wc.heap.size wc
  go_enter Try.func84, Try.ntmps84
  go_wp2_with (first | (at_make; refine make_cap wc.heap.size rfl _ _ 59 118 .u32 4 rfl Try.underlying59 HI.out _ _ _ m1 rfl rfl rfl (by omega) (by omega) B0 (Nat.le_refl _) ?_; intro w1 hown HB) | go_in)
  clear B0
  go_loopw [5, 6, 15] (fun v c i wr => ∃ (k : Nat) (ds : List Int) (cy : Int), k ≤ m1 ∧ i = .int .i64 k ∧ c = .int .u32 cy ∧ Minus a' b' k ds cy ∧ wr.ownsRow wc.heap.size 118 1 v ds.length (ints .u32 ds) ∧ v ≠ .slice none 0 0 ∧ Below wc.heap.size wc wr) (fun _ _ i _ => m1 - (intOf i).toNat)
  case atStart => exact ⟨0, [], 0, Nat.zero_le _, rfl, rfl, Minus.start _ _, hown, by simp, HB⟩
  case round =>
    obtain ⟨k, ds, cy, hk, rfl, rfl, hp, ho, hne, hB⟩ := hrel
    have hc0 := hp.c0
    have hc1 := hp.c1
    have hl := Lib.hid hp.len
    have hne' := Lib.hid hne
    clear hne
    by_cases hlt : k < m1
    · obtain ⟨ga, oa, rfl, la, ca⟩ := g1.at_ (by omega)
      have ca1 : wr.cell? ⟨ga, oa + k, none⟩ = some (.int .u32 (a'.getD k 0)) := (hB.cell (p := ⟨ga, oa + k, none⟩) la).trans (ca k hlt)
      clear ca
      have da := hid.out.1.at k (by omega)
      have db := hid.out.2.at k (by omega)
      have hs := hp.step hid.out.1 hid.out.2
      by_cases hl2 : k < m2
      · obtain ⟨gb, ob, rfl, lb, cb⟩ := g2.at_ (by omega)
        have cb1 : wr.cell? ⟨gb, ob + k, none⟩ = some (.int .u32 (b'.getD k 0)) := (hB.cell (p := ⟨gb, ob + k, none⟩) lb).trans (cb k hl2)
        clear cb
        generalize a'.getD k 0 = x at *
        generalize b'.getD k 0 = y at *
        go_wp2_with fail
        refine (sub32_calls x y cy _ da.1 da.2 db.1 db.2 hc0 hc1).mono ?_
        rintro e w' ⟨rfl, rfl⟩
        generalize (if x - y - cy < 0 then 1 else 0 : Int) = z at *
        go_wp2_with (at_builtin; refine append_num wc.heap.size rfl _ _ 59 118 .u32 4 rfl Try.underlying59 HI.out (by omega) u5 ds _ rfl rfl ho hB hB.size (by have := hl.out; omega) ?_; intro v1 w2 ho2 hB2)
        go_roundw
        case rel => exact ⟨k + 1, _, _, by omega, by go_num, rfl, hs, ho2, own_snoc_ne ho2 (by simp), hB2⟩
        case measure => simp [intOf]; omega
      · have hy0 : b'.getD k 0 = 0 := by rw [List.getD_eq_getElem?_getD, List.getElem?_eq_none (by rw [g2.1]; omega)]; rfl
        rw [hy0, Int.sub_zero] at hs
        clear hy0 db
        generalize a'.getD k 0 = x at *
        go_wp2_with fail
        refine (sub32_calls x 0 cy _ da.1 da.2 (by omega) (by omega) hc0 hc1).mono ?_
        rintro e w' ⟨rfl, rfl⟩
        rw [Int.sub_zero]
        generalize (if x - cy < 0 then 1 else 0 : Int) = z at *
        go_wp2_with (at_builtin; refine append_num wc.heap.size rfl _ _ 59 118 .u32 4 rfl Try.underlying59 HI.out (by omega) u5 ds _ rfl rfl ho hB hB.size (by have := hl.out; omega) ?_; intro v1 w2 ho2 hB2)
        go_roundw
        case rel => exact ⟨k + 1, _, _, by omega, by go_num, rfl, hs, ho2, own_snoc_ne ho2 (by simp), hB2⟩
        case measure => simp [intOf]; omega
    · have hk1 : k = m1 := by omega
      subst hk1
      have hst := hp
      rw [← g1.1] at hst
      have hst := Lib.hid (hst.stop (by rw [g1.1, g2.1]; exact hm2) hvv.out)
      obtain ⟨A, c, rfl, hc, hr, hn⟩ := RdI.own ho
      have hne2 := Lib.hid (show A ≠ none from fun e => hne'.out (by rw [e, (hn e).1, (hn e).2]))
      clear hn
      have hll : ds.length = k := hl.out
      go_wp2
      go_ret
      exact ⟨A, _, c, _, rfl, hne2.out, hc, hll, hr, hst.out.2.1, hst.out.2.2, hB⟩
end Go.Proofs.Ytjmbpeniibdnoaa
