/- reference: All, and the operations on numbers. -/
import Derived.Test.YtijdnlkojflnkaaRef13
import Derived.Test.YtijdnlkojflnkaaNum7
set_option linter.unusedVariables false
set_option linter.unusedSimpArgs false
namespace Go.Proofs.Ytijdnlkojflnkaa
open Go.RowKit

/-- A slice of numbers. -/
def RdN (w : World) (A : Option Addr) (n : Nat) (xs : List (Int × Int)) : Prop :=
  xs.length = n ∧ n ≤ 9223372036854775807 ∧ (0 < n → ∃ g off, A = some ⟨g, off, none⟩ ∧ g < w.heap.size ∧ ∀ j, j < n → w.cell? ⟨g, off + j * 2, none⟩ = some (.int .i64 (xs.getD j (0, 0)).1) ∧ w.cell? ⟨g, off + j * 2 + 1, none⟩ = some (.int .i64 (xs.getD j (0, 0)).2))
theorem RdN.below {w w' : World} {A : Option Addr} {n : Nat} {xs : List (Int × Int)} (h : RdN w A n xs) (hb : Below w.heap.size w w') : RdN w' A n xs := by
  refine ⟨h.1, h.2.1, fun hn => ?_⟩
  obtain ⟨g, off, e, hg, hc⟩ := h.2.2 hn
  exact ⟨g, off, e, Nat.lt_of_lt_of_le hg hb.size, fun j hj => ⟨by rw [(cells_below hb).1 g _ hg]; exact (hc j hj).1, by rw [(cells_below hb).1 g _ hg]; exact (hc j hj).2⟩⟩
theorem RdN.bl {w w0 w' : World} {A : Option Addr} {n : Nat} {xs : List (Int × Int)} (h : RdN w A n xs) (hb : Below w.heap.size w w') : RdN w' A n xs := h.below hb
theorem RdN.two {W : World} {g : Nat} {t l t' l' : Int} {fr : Nat × Nat} (h : W.heap[g]? = some (.cells #[.int .i64 t, .int .i64 l, .int .i64 t', .int .i64 l'] 23 fr)) : RdN W (some ⟨g, 0, none⟩) 2 [(t, l), (t', l')] := by
  refine ⟨rfl, by omega, fun _ => ⟨g, 0, rfl, blk_lt h, fun j hj => ?_⟩⟩
  match j, hj with
  | 0, _ => exact ⟨by simp [World.cell?, h], by simp [World.cell?, h]⟩
  | 1, _ => exact ⟨by simp [World.cell?, h], by simp [World.cell?, h]⟩
def I64s (xs : List (Int × Int)) : Prop := ∀ x ∈ xs, I64 x.1 x.2
theorem I64s.at {xs : List (Int × Int)} (h : I64s xs) (k : Nat) (hk : k < xs.length) : I64 (xs.getD k (0, 0)).1 (xs.getD k (0, 0)).2 := by
  have : xs.getD k (0, 0) = xs[k] := by rw [List.getD_eq_getElem?_getD, List.getElem?_eq_getElem hk]; rfl
  rw [this]
  exact h _ (List.getElem_mem hk)
def OkNs (xs : List (Int × Int)) : Prop := ∀ x ∈ xs, OkN x.1 x.2
instance (xs : List (Int × Int)) : Decidable (OkNs xs) := by unfold OkNs; infer_instance
theorem OkNs.at {xs : List (Int × Int)} (h : OkNs xs) (k : Nat) (hk : k < xs.length) : OkN (xs.getD k (0, 0)).1 (xs.getD k (0, 0)).2 := by
  have : xs.getD k (0, 0) = xs[k] := by rw [List.getD_eq_getElem?_getD, List.getElem?_eq_getElem hk]; rfl
  rw [this]
  exact h _ (List.getElem_mem hk)
theorem OkNs.of {xs : List (Int × Int)} (h : ∀ k, k < xs.length → OkN (xs.getD k (0, 0)).1 (xs.getD k (0, 0)).2) : OkNs xs := by
  intro x hx
  obtain ⟨k, hk, rfl⟩ := List.getElem_of_mem hx
  have := h k hk
  rw [List.getD_eq_getElem?_getD, List.getElem?_eq_getElem hk] at this
  exact this
theorem OkNs.two (t l t' l' : Int) : OkNs [(t, l), (t', l')] ↔ OkN t l ∧ OkN t' l' := by
  unfold OkNs
  simp

set_option maxHeartbeats 8000000 in
set_option maxRecDepth 100000 in
theorem rall_calls (A : Option Addr) (n c : Nat) (xs : List (Int × Int)) (w : World) (h : RdN w A n xs) (hi : I64s xs) :
    Calls Try.prog 41 #[.slice A n c] w fun e w' => e = .returned (.bool (decide (OkNs xs))) ∧ Below w.heap.size w w' := by
  have L := Lib.hid h.1
  have hn := h.2.1
  generalize hB : decide (OkNs xs) = B
  have HB := Lib.hid hB
  clear hB
  go_enter Try.func41, Try.ntmps41
  go_wp2_with fail
  go_loopw [7] (fun i wr => ∃ k : Nat, k ≤ n ∧ i = .int .i64 k ∧ (∀ j, j < k → OkN (xs.getD j (0, 0)).1 (xs.getD j (0, 0)).2) ∧ Below w.heap.size w wr) (fun i _ => n - (intOf i).toNat)
  case atStart => exact ⟨0, Nat.zero_le _, rfl, fun j hj => absurd hj (by omega), Below.refl _ _⟩
  case round =>
    obtain ⟨k, hk, rfl, hall, hBw⟩ := hrel
    have HALL := Lib.hid hall
    clear hall
    by_cases hlt : k < n
    · have hr := h.below hBw
      obtain ⟨g, off, rfl, hg, hc⟩ := hr.2.2 (by omega)
      obtain ⟨c1, c2⟩ := hc k hlt
      have i64 := Lib.hid (hi.at k (by rw [L.out]; exact hlt))
      clear hc hr h
      generalize hx1 : (xs.getD k (0, 0)).1 = x1 at *
      generalize hx2 : (xs.getD k (0, 0)).2 = x2 at *
      have HX1 := Lib.hid hx1
      have HX2 := Lib.hid hx2
      clear hx1 hx2
      go_wp2_with fail
      refine (rvalid_calls x1 x2 _ i64.out.1.1 i64.out.1.2 i64.out.2.1 i64.out.2.2).mono ?_
      rintro e w1 ⟨he, hB1⟩
      replace hBw := bl_then (bl_alloc hBw _) hB1
      clear hB1 c1 c2
      by_cases hok : OkN x1 x2
      · rw [decide_eq_true hok] at he
        subst he
        replace hok := Lib.hid hok
        go_wp2
        go_roundw
        case rel =>
          refine ⟨k + 1, hlt, by go_num, ?_, hBw⟩
          intro j hj
          rcases Nat.lt_or_ge j k with h1 | h1
          · exact HALL.out j h1
          · have : j = k := by omega
            subst this
            rw [HX1.out, HX2.out]
            exact hok.out
        case measure => simp [intOf]; omega
      · rw [decide_eq_false hok] at he
        subst he
        have hf : B = false := by
          rw [← HB.out, decide_eq_false]
          intro hh
          have := hh.at k (by rw [L.out]; exact hlt)
          rw [HX1.out, HX2.out] at this
          exact hok this
        subst hf
        go_wp2
        go_ret
        exact ⟨rfl, hBw⟩
    · have hf : B = true := by
        rw [← HB.out, decide_eq_true]
        exact OkNs.of fun j hj => HALL.out j (by rw [L.out] at hj; omega)
      subst hf
      go_wp2
      go_ret
      exact ⟨rfl, hBw⟩

theorem blk_farN {w : World} {g k : Nat} {o : Obj} (h : w.heap[k]? = some o) (hk : k ≠ g) (x y : Value) : ((w.setCell ⟨g, 0, none⟩ x).setCell ⟨g, 1, none⟩ y).heap[k]? = some o := blk_far (blk_far h hk) hk

set_option maxHeartbeats 8000000 in
set_option maxRecDepth 100000 in
theorem rnadd_calls (t l t' l' : Int) (w : World) (h0 : -9223372036854775808 ≤ t) (h1 : t ≤ 9223372036854775807) (h2 : -9223372036854775808 ≤ l) (h3 : l ≤ 9223372036854775807) (h0' : -9223372036854775808 ≤ t') (h1' : t' ≤ 9223372036854775807) (h2' : -9223372036854775808 ≤ l') (h3' : l' ≤ 9223372036854775807) :
    Calls Try.prog 25 #[.agg #[.int .i64 t, .int .i64 l], .agg #[.int .i64 t', .int .i64 l']] w fun e w' => NumR e (rT (OkN t l ∧ OkN t' l') (Rat.divInt t l + Rat.divInt t' l')) (rL (OkN t l ∧ OkN t' l') (Rat.divInt t l + Rat.divInt t' l')) (rE (OkN t l ∧ OkN t' l') (Rat.divInt t l + Rat.divInt t' l')) ∧ Below w.heap.size w w' := by
  by_cases hok : OkN t l ∧ OkN t' l'
  · unfold rT rL rE
    rw [if_pos hok, if_pos hok, if_pos hok]
    have DEC : Hid (decide (OkNs [(t, l), (t', l')]) = true) := Lib.hid (decide_eq_true ((OkNs.two _ _ _ _).2 hok))
    have I64P : Hid (I64s [(t, l), (t', l')]) := Lib.hid (by intro x hx; simp at hx; rcases hx with rfl | rfl; exact ⟨⟨h0, h1⟩, h2, h3⟩; exact ⟨⟨h0', h1'⟩, h2', h3'⟩)
    have SQ := (num_sz hok.1).1
    have SR := (num_sz hok.2).1
    have ok1 := Lib.hid hok.1
    have ok2 := Lib.hid hok.2
    clear hok
    generalize hq : Rat.divInt t l = q at *
    generalize hr : Rat.divInt t' l' = r at *
    have HQ := Lib.hid hq
    have HR := Lib.hid hr
    clear hq hr
    generalize hT : outT (q + r) = oT
    replace hT := Lib.hid hT
    generalize hL : outL (q + r) = oL
    replace hL := Lib.hid hL
    generalize hE : outE (q + r) = oE
    replace hE := Lib.hid hE
    go_enter Try.func25, Try.ntmps25
    go_wp2_with fail
    have B0 := bl_alloc (bl_alloc (bl_alloc (bl_alloc (Below.refl w.heap.size w) (.cells #[.int .i64 t, .int .i64 l] 23)) (.cells #[.int .i64 t', .int .i64 l'] 23)) (.cells #[.int .i64 0, .int .i64 0] 23)) (.cells #[.int .i64 t, .int .i64 l, .int .i64 t', .int .i64 l'] 23)
    have a1 : ((((w.alloc (.cells #[.int .i64 t, .int .i64 l] 23)).alloc (.cells #[.int .i64 t', .int .i64 l'] 23)).alloc (.cells #[.int .i64 0, .int .i64 0] 23)).alloc (.cells #[.int .i64 t, .int .i64 l, .int .i64 t', .int .i64 l'] 23)).heap[w.heap.size]? = some (.cells #[.int .i64 t, .int .i64 l] 23 (0, 0)) := blk_alloc (blk_alloc (blk_alloc (blk_at _ rfl) _) _) _
    have a2 : ((((w.alloc (.cells #[.int .i64 t, .int .i64 l] 23)).alloc (.cells #[.int .i64 t', .int .i64 l'] 23)).alloc (.cells #[.int .i64 0, .int .i64 0] 23)).alloc (.cells #[.int .i64 t, .int .i64 l, .int .i64 t', .int .i64 l'] 23)).heap[w.heap.size + 1]? = some (.cells #[.int .i64 t', .int .i64 l'] 23 (0, 0)) := blk_alloc (blk_alloc (blk_at _ (by simp)) _) _
    have a3 : ((((w.alloc (.cells #[.int .i64 t, .int .i64 l] 23)).alloc (.cells #[.int .i64 t', .int .i64 l'] 23)).alloc (.cells #[.int .i64 0, .int .i64 0] 23)).alloc (.cells #[.int .i64 t, .int .i64 l, .int .i64 t', .int .i64 l'] 23)).heap[w.heap.size + 1 + 1]? = some (.cells #[.int .i64 0, .int .i64 0] 23 (0, 0)) := blk_alloc (blk_at _ (by simp)) _
    have a4 : ((((w.alloc (.cells #[.int .i64 t, .int .i64 l] 23)).alloc (.cells #[.int .i64 t', .int .i64 l'] 23)).alloc (.cells #[.int .i64 0, .int .i64 0] 23)).alloc (.cells #[.int .i64 t, .int .i64 l, .int .i64 t', .int .i64 l'] 23)).heap[w.heap.size + 1 + 1 + 1]? = some (.cells #[.int .i64 t, .int .i64 l, .int .i64 t', .int .i64 l'] 23 (0, 0)) := blk_at _ (by simp)
    generalize (((w.alloc (.cells #[.int .i64 t, .int .i64 l] 23)).alloc (.cells #[.int .i64 t', .int .i64 l'] 23)).alloc (.cells #[.int .i64 0, .int .i64 0] 23)).alloc (.cells #[.int .i64 t, .int .i64 l, .int .i64 t', .int .i64 l'] 23) = W0 at *
    refine (rall_calls _ 2 2 [(t, l), (t', l')] _ (RdN.two a4) I64P.out).mono ?_
    rintro e w1 ⟨he, hB1⟩
    rw [DEC.out] at he
    subst he
    replace a1 := blk_below a1 hB1
    replace a2 := blk_below a2 hB1
    replace a3 := blk_below a3 hB1
    replace B0 := bl_then B0 hB1
    clear hB1 a4
    have N13 := Lib.hid (show w.heap.size ≠ w.heap.size + 1 + 1 by omega)
    have N23 := Lib.hid (show w.heap.size + 1 ≠ w.heap.size + 1 + 1 by omega)
    have a1_0 := a1
    have a2_0 := a2
    have a3_0 := a3
    have HB_0 := B0
    obtain ⟨p1, p2, p3, p4⟩ := bx2 a1
    obtain ⟨q1, q2, q3, q4⟩ := bx2 a2
    go_wp2_with fail
    go_region_held3 (fun W => W.cell? ⟨w.heap.size, 0, none⟩ = some (Value.int .i64 t) ∧ W.cell? ⟨w.heap.size, 1, none⟩ = some (Value.int .i64 l) ∧ W.cell? ⟨w.heap.size + 1, 0, none⟩ = some (Value.int .i64 t') ∧ W.cell? ⟨w.heap.size + 1, 1, none⟩ = some (Value.int .i64 l')) (first | with_reducible exact P4 | with_reducible exact P3 | with_reducible exact P2 | with_reducible exact P1 | with_reducible exact (j2 (cx2 (blk_drew a1_0)) (cx2 (blk_drew a2_0))) | with_reducible exact (j2 (cx2 (blk_farN (a1_4) N13.out _ _)) (cx2 (blk_farN (a2_4) N23.out _ _))) | go_keep) (first | (have _hh := HB_3; go_at_call 42; refine (rnum_calls s3 b3 A3 n3 c3 s3' b3' A3' n3' c3' (q + r) _ (by repeat (first | with_reducible exact r3_3 | with_reducible refine RRV.kp ?_ (Kp.refl _ _).drew))).mono ?_; rintro e ww4 ⟨hen, hB4⟩; rw [hT.out, hL.out, hE.out] at hen; unfold NumR at hen; subst hen; have a1_4 : ww4.heap[w.heap.size]? = some (.cells #[.int .i64 t, .int .i64 l] 23 (0, 0)) := (by repeat (first | with_reducible exact a1_3 | with_reducible refine blk_below ?_ hB4 | with_reducible refine blk_drew ?_)); have a2_4 : ww4.heap[w.heap.size + 1]? = some (.cells #[.int .i64 t', .int .i64 l'] 23 (0, 0)) := (by repeat (first | with_reducible exact a2_3 | with_reducible refine blk_below ?_ hB4 | with_reducible refine blk_drew ?_)); have a3_4 : ww4.heap[w.heap.size + 1 + 1]? = some (.cells #[.int .i64 0, .int .i64 0] 23 (0, 0)) := (by repeat (first | with_reducible exact a3_3 | with_reducible refine blk_below ?_ hB4 | with_reducible refine blk_drew ?_)); have r1_4 : RRV ww4 s1 b1 A1 n1 c1 s1' b1' A1' n1' c1' q := (by repeat (first | with_reducible exact r1_3 | with_reducible refine RRV.below ?_ hB4 | with_reducible refine RRV.kp ?_ (Kp.refl _ _).drew)); have r2_4 : RRV ww4 s2 b2 A2 n2 c2 s2' b2' A2' n2' c2' r := (by repeat (first | with_reducible exact r2_3 | with_reducible refine RRV.below ?_ hB4 | with_reducible refine RRV.kp ?_ (Kp.refl _ _).drew)); have r3_4 : RRV ww4 s3 b3 A3 n3 c3 s3' b3' A3' n3' c3' (q + r) := (by repeat (first | with_reducible exact r3_3 | with_reducible refine RRV.below ?_ hB4 | with_reducible refine RRV.kp ?_ (Kp.refl _ _).drew)); have HB_4 : Below w.heap.size w ww4 := (by repeat (first | with_reducible exact HB_3 | with_reducible refine bl_then ?_ hB4 | with_reducible refine bl_drew ?_)); have P4 := j2 (cx2 (a1_4)) (cx2 (a2_4)); obtain ⟨z1, z2, z3, z4⟩ := bx2 a3_4) | (have _hh := HB_2; go_at_call 63; refine (rrplus_calls s1 b1 A1 n1 c1 s1' b1' A1' n1' c1' q s2 b2 A2 n2 c2 s2' b2' A2' n2' c2' r _ (by repeat (first | with_reducible exact r1_2 | with_reducible refine RRV.kp ?_ (Kp.refl _ _).drew)) (by repeat (first | with_reducible exact r2_2 | with_reducible refine RRV.kp ?_ (Kp.refl _ _).drew)) 64 SQ SR (by omega)).mono ?_; rintro e ww3 ⟨⟨s3, b3, A3, n3, c3, s3', b3', A3', n3', c3', rfl, r3_3⟩, hB3⟩; have a1_3 : ww3.heap[w.heap.size]? = some (.cells #[.int .i64 t, .int .i64 l] 23 (0, 0)) := (by repeat (first | with_reducible exact a1_2 | with_reducible refine blk_below ?_ hB3 | with_reducible refine blk_drew ?_)); have a2_3 : ww3.heap[w.heap.size + 1]? = some (.cells #[.int .i64 t', .int .i64 l'] 23 (0, 0)) := (by repeat (first | with_reducible exact a2_2 | with_reducible refine blk_below ?_ hB3 | with_reducible refine blk_drew ?_)); have a3_3 : ww3.heap[w.heap.size + 1 + 1]? = some (.cells #[.int .i64 0, .int .i64 0] 23 (0, 0)) := (by repeat (first | with_reducible exact a3_2 | with_reducible refine blk_below ?_ hB3 | with_reducible refine blk_drew ?_)); have r1_3 : RRV ww3 s1 b1 A1 n1 c1 s1' b1' A1' n1' c1' q := (by repeat (first | with_reducible exact r1_2 | with_reducible refine RRV.below ?_ hB3 | with_reducible refine RRV.kp ?_ (Kp.refl _ _).drew)); have r2_3 : RRV ww3 s2 b2 A2 n2 c2 s2' b2' A2' n2' c2' r := (by repeat (first | with_reducible exact r2_2 | with_reducible refine RRV.below ?_ hB3 | with_reducible refine RRV.kp ?_ (Kp.refl _ _).drew)); have HB_3 : Below w.heap.size w ww3 := (by repeat (first | with_reducible exact HB_2 | with_reducible refine bl_then ?_ hB3 | with_reducible refine bl_drew ?_)); have P3 := j2 (cx2 (a1_3)) (cx2 (a2_3))) | (have _hh := HB_1; go_at_call_of 13 (Value.agg #[.int .i64 t', .int .i64 l']); refine (rto_calls t' l' _ ok2.out).mono ?_; rintro e ww2 ⟨⟨s2, b2, A2, n2, c2, s2', b2', A2', n2', c2', rfl, r2_2⟩, hB2⟩; rw [HR.out] at r2_2; have a1_2 : ww2.heap[w.heap.size]? = some (.cells #[.int .i64 t, .int .i64 l] 23 (0, 0)) := (by repeat (first | with_reducible exact a1_1 | with_reducible refine blk_below ?_ hB2 | with_reducible refine blk_drew ?_)); have a2_2 : ww2.heap[w.heap.size + 1]? = some (.cells #[.int .i64 t', .int .i64 l'] 23 (0, 0)) := (by repeat (first | with_reducible exact a2_1 | with_reducible refine blk_below ?_ hB2 | with_reducible refine blk_drew ?_)); have a3_2 : ww2.heap[w.heap.size + 1 + 1]? = some (.cells #[.int .i64 0, .int .i64 0] 23 (0, 0)) := (by repeat (first | with_reducible exact a3_1 | with_reducible refine blk_below ?_ hB2 | with_reducible refine blk_drew ?_)); have r1_2 : RRV ww2 s1 b1 A1 n1 c1 s1' b1' A1' n1' c1' q := (by repeat (first | with_reducible exact r1_1 | with_reducible refine RRV.below ?_ hB2 | with_reducible refine RRV.kp ?_ (Kp.refl _ _).drew)); have HB_2 : Below w.heap.size w ww2 := (by repeat (first | with_reducible exact HB_1 | with_reducible refine bl_then ?_ hB2 | with_reducible refine bl_drew ?_)); have P2 := j2 (cx2 (a1_2)) (cx2 (a2_2))) | (go_at_call_of 13 (Value.agg #[.int .i64 t, .int .i64 l]); refine (rto_calls t l _ ok1.out).mono ?_; rintro e ww1 ⟨⟨s1, b1, A1, n1, c1, s1', b1', A1', n1', c1', rfl, r1_1⟩, hB1⟩; rw [HQ.out] at r1_1; have a1_1 : ww1.heap[w.heap.size]? = some (.cells #[.int .i64 t, .int .i64 l] 23 (0, 0)) := (by repeat (first | with_reducible exact a1_0 | with_reducible refine blk_below ?_ hB1 | with_reducible refine blk_drew ?_)); have a2_1 : ww1.heap[w.heap.size + 1]? = some (.cells #[.int .i64 t', .int .i64 l'] 23 (0, 0)) := (by repeat (first | with_reducible exact a2_0 | with_reducible refine blk_below ?_ hB1 | with_reducible refine blk_drew ?_)); have a3_1 : ww1.heap[w.heap.size + 1 + 1]? = some (.cells #[.int .i64 0, .int .i64 0] 23 (0, 0)) := (by repeat (first | with_reducible exact a3_0 | with_reducible refine blk_below ?_ hB1 | with_reducible refine blk_drew ?_)); have HB_1 : Below w.heap.size w ww1 := (by repeat (first | with_reducible exact HB_0 | with_reducible refine bl_then ?_ hB1 | with_reducible refine bl_drew ?_)); have P1 := j2 (cx2 (a1_1)) (cx2 (a2_1))) | fail)
    all_goals
      go_wp2
      refine bodyPost_ret (results_cell_tmp_row rfl _ _ (w.heap.size + 1 + 1) 23 #[.int .i64 oT, .int .i64 oL] (0, 0) _ _ rfl (by exact blk_set2 a3_4 _ _) Try.underlying23 rfl (by kernel_rfl) rfl) rfl ?_
      exact ⟨rfl, bl_set (bl_set HB_4 (by show w.heap.size ≤ w.heap.size + 1 + 1; omega) _) (by show w.heap.size ≤ w.heap.size + 1 + 1; omega) _⟩
  · unfold rT rL rE
    rw [if_neg hok, if_neg hok, if_neg hok]
    have DEC : Hid (decide (OkNs [(t, l), (t', l')]) = false) := Lib.hid (decide_eq_false (fun h => hok ((OkNs.two _ _ _ _).1 h)))
    have I64P : Hid (I64s [(t, l), (t', l')]) := Lib.hid (by intro x hx; simp at hx; rcases hx with rfl | rfl; exact ⟨⟨h0, h1⟩, h2, h3⟩; exact ⟨⟨h0', h1'⟩, h2', h3'⟩)
    clear hok
    go_enter Try.func25, Try.ntmps25
    go_wp2_with fail
    have B0 := bl_alloc (bl_alloc (bl_alloc (bl_alloc (Below.refl w.heap.size w) (.cells #[.int .i64 t, .int .i64 l] 23)) (.cells #[.int .i64 t', .int .i64 l'] 23)) (.cells #[.int .i64 0, .int .i64 0] 23)) (.cells #[.int .i64 t, .int .i64 l, .int .i64 t', .int .i64 l'] 23)
    have a1 : ((((w.alloc (.cells #[.int .i64 t, .int .i64 l] 23)).alloc (.cells #[.int .i64 t', .int .i64 l'] 23)).alloc (.cells #[.int .i64 0, .int .i64 0] 23)).alloc (.cells #[.int .i64 t, .int .i64 l, .int .i64 t', .int .i64 l'] 23)).heap[w.heap.size]? = some (.cells #[.int .i64 t, .int .i64 l] 23 (0, 0)) := blk_alloc (blk_alloc (blk_alloc (blk_at _ rfl) _) _) _
    have a2 : ((((w.alloc (.cells #[.int .i64 t, .int .i64 l] 23)).alloc (.cells #[.int .i64 t', .int .i64 l'] 23)).alloc (.cells #[.int .i64 0, .int .i64 0] 23)).alloc (.cells #[.int .i64 t, .int .i64 l, .int .i64 t', .int .i64 l'] 23)).heap[w.heap.size + 1]? = some (.cells #[.int .i64 t', .int .i64 l'] 23 (0, 0)) := blk_alloc (blk_alloc (blk_at _ (by simp)) _) _
    have a3 : ((((w.alloc (.cells #[.int .i64 t, .int .i64 l] 23)).alloc (.cells #[.int .i64 t', .int .i64 l'] 23)).alloc (.cells #[.int .i64 0, .int .i64 0] 23)).alloc (.cells #[.int .i64 t, .int .i64 l, .int .i64 t', .int .i64 l'] 23)).heap[w.heap.size + 1 + 1]? = some (.cells #[.int .i64 0, .int .i64 0] 23 (0, 0)) := blk_alloc (blk_at _ (by simp)) _
    have a4 : ((((w.alloc (.cells #[.int .i64 t, .int .i64 l] 23)).alloc (.cells #[.int .i64 t', .int .i64 l'] 23)).alloc (.cells #[.int .i64 0, .int .i64 0] 23)).alloc (.cells #[.int .i64 t, .int .i64 l, .int .i64 t', .int .i64 l'] 23)).heap[w.heap.size + 1 + 1 + 1]? = some (.cells #[.int .i64 t, .int .i64 l, .int .i64 t', .int .i64 l'] 23 (0, 0)) := blk_at _ (by simp)
    generalize (((w.alloc (.cells #[.int .i64 t, .int .i64 l] 23)).alloc (.cells #[.int .i64 t', .int .i64 l'] 23)).alloc (.cells #[.int .i64 0, .int .i64 0] 23)).alloc (.cells #[.int .i64 t, .int .i64 l, .int .i64 t', .int .i64 l'] 23) = W0 at *
    refine (rall_calls _ 2 2 [(t, l), (t', l')] _ (RdN.two a4) I64P.out).mono ?_
    rintro e w1 ⟨he, hB1⟩
    rw [DEC.out] at he
    subst he
    replace a1 := blk_below a1 hB1
    replace a2 := blk_below a2 hB1
    replace a3 := blk_below a3 hB1
    replace B0 := bl_then B0 hB1
    clear hB1 a4
    obtain ⟨z1, z2, z3, z4⟩ := bx2 a3
    go_wp2
    refine bodyPost_ret (results_cell_tmp_row rfl _ _ (w.heap.size + 1 + 1) 23 #[.int .i64 0, .int .i64 0] (0, 0) _ _ rfl (by first | exact a3 | exact blk_set2 a3 _ _) Try.underlying23 rfl (by kernel_rfl) rfl) rfl ?_
    exact ⟨rfl, by first | exact B0 | exact bl_set (bl_set B0 (by show w.heap.size ≤ w.heap.size + 1 + 1; omega) _) (by show w.heap.size ≤ w.heap.size + 1 + 1; omega) _⟩

set_option maxHeartbeats 8000000 in
set_option maxRecDepth 100000 in
theorem rnsub_calls (t l t' l' : Int) (w : World) (h0 : -9223372036854775808 ≤ t) (h1 : t ≤ 9223372036854775807) (h2 : -9223372036854775808 ≤ l) (h3 : l ≤ 9223372036854775807) (h0' : -9223372036854775808 ≤ t') (h1' : t' ≤ 9223372036854775807) (h2' : -9223372036854775808 ≤ l') (h3' : l' ≤ 9223372036854775807) :
    Calls Try.prog 26 #[.agg #[.int .i64 t, .int .i64 l], .agg #[.int .i64 t', .int .i64 l']] w fun e w' => NumR e (rT (OkN t l ∧ OkN t' l') (Rat.divInt t l - Rat.divInt t' l')) (rL (OkN t l ∧ OkN t' l') (Rat.divInt t l - Rat.divInt t' l')) (rE (OkN t l ∧ OkN t' l') (Rat.divInt t l - Rat.divInt t' l')) ∧ Below w.heap.size w w' := by
  by_cases hok : OkN t l ∧ OkN t' l'
  · unfold rT rL rE
    rw [if_pos hok, if_pos hok, if_pos hok]
    have DEC : Hid (decide (OkNs [(t, l), (t', l')]) = true) := Lib.hid (decide_eq_true ((OkNs.two _ _ _ _).2 hok))
    have I64P : Hid (I64s [(t, l), (t', l')]) := Lib.hid (by intro x hx; simp at hx; rcases hx with rfl | rfl; exact ⟨⟨h0, h1⟩, h2, h3⟩; exact ⟨⟨h0', h1'⟩, h2', h3'⟩)
    have SQ := (num_sz hok.1).1
    have SR := (num_sz hok.2).1
    have ok1 := Lib.hid hok.1
    have ok2 := Lib.hid hok.2
    clear hok
    generalize hq : Rat.divInt t l = q at *
    generalize hr : Rat.divInt t' l' = r at *
    have HQ := Lib.hid hq
    have HR := Lib.hid hr
    clear hq hr
    generalize hT : outT (q - r) = oT
    replace hT := Lib.hid hT
    generalize hL : outL (q - r) = oL
    replace hL := Lib.hid hL
    generalize hE : outE (q - r) = oE
    replace hE := Lib.hid hE
    go_enter Try.func26, Try.ntmps26
    go_wp2_with fail
    have B0 := bl_alloc (bl_alloc (bl_alloc (bl_alloc (Below.refl w.heap.size w) (.cells #[.int .i64 t, .int .i64 l] 23)) (.cells #[.int .i64 t', .int .i64 l'] 23)) (.cells #[.int .i64 0, .int .i64 0] 23)) (.cells #[.int .i64 t, .int .i64 l, .int .i64 t', .int .i64 l'] 23)
    have a1 : ((((w.alloc (.cells #[.int .i64 t, .int .i64 l] 23)).alloc (.cells #[.int .i64 t', .int .i64 l'] 23)).alloc (.cells #[.int .i64 0, .int .i64 0] 23)).alloc (.cells #[.int .i64 t, .int .i64 l, .int .i64 t', .int .i64 l'] 23)).heap[w.heap.size]? = some (.cells #[.int .i64 t, .int .i64 l] 23 (0, 0)) := blk_alloc (blk_alloc (blk_alloc (blk_at _ rfl) _) _) _
    have a2 : ((((w.alloc (.cells #[.int .i64 t, .int .i64 l] 23)).alloc (.cells #[.int .i64 t', .int .i64 l'] 23)).alloc (.cells #[.int .i64 0, .int .i64 0] 23)).alloc (.cells #[.int .i64 t, .int .i64 l, .int .i64 t', .int .i64 l'] 23)).heap[w.heap.size + 1]? = some (.cells #[.int .i64 t', .int .i64 l'] 23 (0, 0)) := blk_alloc (blk_alloc (blk_at _ (by simp)) _) _
    have a3 : ((((w.alloc (.cells #[.int .i64 t, .int .i64 l] 23)).alloc (.cells #[.int .i64 t', .int .i64 l'] 23)).alloc (.cells #[.int .i64 0, .int .i64 0] 23)).alloc (.cells #[.int .i64 t, .int .i64 l, .int .i64 t', .int .i64 l'] 23)).heap[w.heap.size + 1 + 1]? = some (.cells #[.int .i64 0, .int .i64 0] 23 (0, 0)) := blk_alloc (blk_at _ (by simp)) _
    have a4 : ((((w.alloc (.cells #[.int .i64 t, .int .i64 l] 23)).alloc (.cells #[.int .i64 t', .int .i64 l'] 23)).alloc (.cells #[.int .i64 0, .int .i64 0] 23)).alloc (.cells #[.int .i64 t, .int .i64 l, .int .i64 t', .int .i64 l'] 23)).heap[w.heap.size + 1 + 1 + 1]? = some (.cells #[.int .i64 t, .int .i64 l, .int .i64 t', .int .i64 l'] 23 (0, 0)) := blk_at _ (by simp)
    generalize (((w.alloc (.cells #[.int .i64 t, .int .i64 l] 23)).alloc (.cells #[.int .i64 t', .int .i64 l'] 23)).alloc (.cells #[.int .i64 0, .int .i64 0] 23)).alloc (.cells #[.int .i64 t, .int .i64 l, .int .i64 t', .int .i64 l'] 23) = W0 at *
    refine (rall_calls _ 2 2 [(t, l), (t', l')] _ (RdN.two a4) I64P.out).mono ?_
    rintro e w1 ⟨he, hB1⟩
    rw [DEC.out] at he
    subst he
    replace a1 := blk_below a1 hB1
    replace a2 := blk_below a2 hB1
    replace a3 := blk_below a3 hB1
    replace B0 := bl_then B0 hB1
    clear hB1 a4
    have N13 := Lib.hid (show w.heap.size ≠ w.heap.size + 1 + 1 by omega)
    have N23 := Lib.hid (show w.heap.size + 1 ≠ w.heap.size + 1 + 1 by omega)
    have a1_0 := a1
    have a2_0 := a2
    have a3_0 := a3
    have HB_0 := B0
    obtain ⟨p1, p2, p3, p4⟩ := bx2 a1
    obtain ⟨q1, q2, q3, q4⟩ := bx2 a2
    go_wp2_with fail
    go_region_held3 (fun W => W.cell? ⟨w.heap.size, 0, none⟩ = some (Value.int .i64 t) ∧ W.cell? ⟨w.heap.size, 1, none⟩ = some (Value.int .i64 l) ∧ W.cell? ⟨w.heap.size + 1, 0, none⟩ = some (Value.int .i64 t') ∧ W.cell? ⟨w.heap.size + 1, 1, none⟩ = some (Value.int .i64 l')) (first | with_reducible exact P4 | with_reducible exact P3 | with_reducible exact P2 | with_reducible exact P1 | with_reducible exact (j2 (cx2 (blk_drew a1_0)) (cx2 (blk_drew a2_0))) | with_reducible exact (j2 (cx2 (blk_farN (a1_4) N13.out _ _)) (cx2 (blk_farN (a2_4) N23.out _ _))) | go_keep) (first | (have _hh := HB_3; go_at_call 42; refine (rnum_calls s3 b3 A3 n3 c3 s3' b3' A3' n3' c3' (q - r) _ (by repeat (first | with_reducible exact r3_3 | with_reducible refine RRV.kp ?_ (Kp.refl _ _).drew))).mono ?_; rintro e ww4 ⟨hen, hB4⟩; rw [hT.out, hL.out, hE.out] at hen; unfold NumR at hen; subst hen; have a1_4 : ww4.heap[w.heap.size]? = some (.cells #[.int .i64 t, .int .i64 l] 23 (0, 0)) := (by repeat (first | with_reducible exact a1_3 | with_reducible refine blk_below ?_ hB4 | with_reducible refine blk_drew ?_)); have a2_4 : ww4.heap[w.heap.size + 1]? = some (.cells #[.int .i64 t', .int .i64 l'] 23 (0, 0)) := (by repeat (first | with_reducible exact a2_3 | with_reducible refine blk_below ?_ hB4 | with_reducible refine blk_drew ?_)); have a3_4 : ww4.heap[w.heap.size + 1 + 1]? = some (.cells #[.int .i64 0, .int .i64 0] 23 (0, 0)) := (by repeat (first | with_reducible exact a3_3 | with_reducible refine blk_below ?_ hB4 | with_reducible refine blk_drew ?_)); have r1_4 : RRV ww4 s1 b1 A1 n1 c1 s1' b1' A1' n1' c1' q := (by repeat (first | with_reducible exact r1_3 | with_reducible refine RRV.below ?_ hB4 | with_reducible refine RRV.kp ?_ (Kp.refl _ _).drew)); have r2_4 : RRV ww4 s2 b2 A2 n2 c2 s2' b2' A2' n2' c2' r := (by repeat (first | with_reducible exact r2_3 | with_reducible refine RRV.below ?_ hB4 | with_reducible refine RRV.kp ?_ (Kp.refl _ _).drew)); have r3_4 : RRV ww4 s3 b3 A3 n3 c3 s3' b3' A3' n3' c3' (q - r) := (by repeat (first | with_reducible exact r3_3 | with_reducible refine RRV.below ?_ hB4 | with_reducible refine RRV.kp ?_ (Kp.refl _ _).drew)); have HB_4 : Below w.heap.size w ww4 := (by repeat (first | with_reducible exact HB_3 | with_reducible refine bl_then ?_ hB4 | with_reducible refine bl_drew ?_)); have P4 := j2 (cx2 (a1_4)) (cx2 (a2_4)); obtain ⟨z1, z2, z3, z4⟩ := bx2 a3_4) | (have _hh := HB_2; go_at_call 48; refine (rrless_calls s1 b1 A1 n1 c1 s1' b1' A1' n1' c1' q s2 b2 A2 n2 c2 s2' b2' A2' n2' c2' r _ (by repeat (first | with_reducible exact r1_2 | with_reducible refine RRV.kp ?_ (Kp.refl _ _).drew)) (by repeat (first | with_reducible exact r2_2 | with_reducible refine RRV.kp ?_ (Kp.refl _ _).drew)) 64 SQ SR (by omega)).mono ?_; rintro e ww3 ⟨⟨s3, b3, A3, n3, c3, s3', b3', A3', n3', c3', rfl, r3_3⟩, hB3⟩; have a1_3 : ww3.heap[w.heap.size]? = some (.cells #[.int .i64 t, .int .i64 l] 23 (0, 0)) := (by repeat (first | with_reducible exact a1_2 | with_reducible refine blk_below ?_ hB3 | with_reducible refine blk_drew ?_)); have a2_3 : ww3.heap[w.heap.size + 1]? = some (.cells #[.int .i64 t', .int .i64 l'] 23 (0, 0)) := (by repeat (first | with_reducible exact a2_2 | with_reducible refine blk_below ?_ hB3 | with_reducible refine blk_drew ?_)); have a3_3 : ww3.heap[w.heap.size + 1 + 1]? = some (.cells #[.int .i64 0, .int .i64 0] 23 (0, 0)) := (by repeat (first | with_reducible exact a3_2 | with_reducible refine blk_below ?_ hB3 | with_reducible refine blk_drew ?_)); have r1_3 : RRV ww3 s1 b1 A1 n1 c1 s1' b1' A1' n1' c1' q := (by repeat (first | with_reducible exact r1_2 | with_reducible refine RRV.below ?_ hB3 | with_reducible refine RRV.kp ?_ (Kp.refl _ _).drew)); have r2_3 : RRV ww3 s2 b2 A2 n2 c2 s2' b2' A2' n2' c2' r := (by repeat (first | with_reducible exact r2_2 | with_reducible refine RRV.below ?_ hB3 | with_reducible refine RRV.kp ?_ (Kp.refl _ _).drew)); have HB_3 : Below w.heap.size w ww3 := (by repeat (first | with_reducible exact HB_2 | with_reducible refine bl_then ?_ hB3 | with_reducible refine bl_drew ?_)); have P3 := j2 (cx2 (a1_3)) (cx2 (a2_3))) | (have _hh := HB_1; go_at_call_of 13 (Value.agg #[.int .i64 t', .int .i64 l']); refine (rto_calls t' l' _ ok2.out).mono ?_; rintro e ww2 ⟨⟨s2, b2, A2, n2, c2, s2', b2', A2', n2', c2', rfl, r2_2⟩, hB2⟩; rw [HR.out] at r2_2; have a1_2 : ww2.heap[w.heap.size]? = some (.cells #[.int .i64 t, .int .i64 l] 23 (0, 0)) := (by repeat (first | with_reducible exact a1_1 | with_reducible refine blk_below ?_ hB2 | with_reducible refine blk_drew ?_)); have a2_2 : ww2.heap[w.heap.size + 1]? = some (.cells #[.int .i64 t', .int .i64 l'] 23 (0, 0)) := (by repeat (first | with_reducible exact a2_1 | with_reducible refine blk_below ?_ hB2 | with_reducible refine blk_drew ?_)); have a3_2 : ww2.heap[w.heap.size + 1 + 1]? = some (.cells #[.int .i64 0, .int .i64 0] 23 (0, 0)) := (by repeat (first | with_reducible exact a3_1 | with_reducible refine blk_below ?_ hB2 | with_reducible refine blk_drew ?_)); have r1_2 : RRV ww2 s1 b1 A1 n1 c1 s1' b1' A1' n1' c1' q := (by repeat (first | with_reducible exact r1_1 | with_reducible refine RRV.below ?_ hB2 | with_reducible refine RRV.kp ?_ (Kp.refl _ _).drew)); have HB_2 : Below w.heap.size w ww2 := (by repeat (first | with_reducible exact HB_1 | with_reducible refine bl_then ?_ hB2 | with_reducible refine bl_drew ?_)); have P2 := j2 (cx2 (a1_2)) (cx2 (a2_2))) | (go_at_call_of 13 (Value.agg #[.int .i64 t, .int .i64 l]); refine (rto_calls t l _ ok1.out).mono ?_; rintro e ww1 ⟨⟨s1, b1, A1, n1, c1, s1', b1', A1', n1', c1', rfl, r1_1⟩, hB1⟩; rw [HQ.out] at r1_1; have a1_1 : ww1.heap[w.heap.size]? = some (.cells #[.int .i64 t, .int .i64 l] 23 (0, 0)) := (by repeat (first | with_reducible exact a1_0 | with_reducible refine blk_below ?_ hB1 | with_reducible refine blk_drew ?_)); have a2_1 : ww1.heap[w.heap.size + 1]? = some (.cells #[.int .i64 t', .int .i64 l'] 23 (0, 0)) := (by repeat (first | with_reducible exact a2_0 | with_reducible refine blk_below ?_ hB1 | with_reducible refine blk_drew ?_)); have a3_1 : ww1.heap[w.heap.size + 1 + 1]? = some (.cells #[.int .i64 0, .int .i64 0] 23 (0, 0)) := (by repeat (first | with_reducible exact a3_0 | with_reducible refine blk_below ?_ hB1 | with_reducible refine blk_drew ?_)); have HB_1 : Below w.heap.size w ww1 := (by repeat (first | with_reducible exact HB_0 | with_reducible refine bl_then ?_ hB1 | with_reducible refine bl_drew ?_)); have P1 := j2 (cx2 (a1_1)) (cx2 (a2_1))) | fail)
    all_goals
      go_wp2
      refine bodyPost_ret (results_cell_tmp_row rfl _ _ (w.heap.size + 1 + 1) 23 #[.int .i64 oT, .int .i64 oL] (0, 0) _ _ rfl (by exact blk_set2 a3_4 _ _) Try.underlying23 rfl (by kernel_rfl) rfl) rfl ?_
      exact ⟨rfl, bl_set (bl_set HB_4 (by show w.heap.size ≤ w.heap.size + 1 + 1; omega) _) (by show w.heap.size ≤ w.heap.size + 1 + 1; omega) _⟩
  · unfold rT rL rE
    rw [if_neg hok, if_neg hok, if_neg hok]
    have DEC : Hid (decide (OkNs [(t, l), (t', l')]) = false) := Lib.hid (decide_eq_false (fun h => hok ((OkNs.two _ _ _ _).1 h)))
    have I64P : Hid (I64s [(t, l), (t', l')]) := Lib.hid (by intro x hx; simp at hx; rcases hx with rfl | rfl; exact ⟨⟨h0, h1⟩, h2, h3⟩; exact ⟨⟨h0', h1'⟩, h2', h3'⟩)
    clear hok
    go_enter Try.func26, Try.ntmps26
    go_wp2_with fail
    have B0 := bl_alloc (bl_alloc (bl_alloc (bl_alloc (Below.refl w.heap.size w) (.cells #[.int .i64 t, .int .i64 l] 23)) (.cells #[.int .i64 t', .int .i64 l'] 23)) (.cells #[.int .i64 0, .int .i64 0] 23)) (.cells #[.int .i64 t, .int .i64 l, .int .i64 t', .int .i64 l'] 23)
    have a1 : ((((w.alloc (.cells #[.int .i64 t, .int .i64 l] 23)).alloc (.cells #[.int .i64 t', .int .i64 l'] 23)).alloc (.cells #[.int .i64 0, .int .i64 0] 23)).alloc (.cells #[.int .i64 t, .int .i64 l, .int .i64 t', .int .i64 l'] 23)).heap[w.heap.size]? = some (.cells #[.int .i64 t, .int .i64 l] 23 (0, 0)) := blk_alloc (blk_alloc (blk_alloc (blk_at _ rfl) _) _) _
    have a2 : ((((w.alloc (.cells #[.int .i64 t, .int .i64 l] 23)).alloc (.cells #[.int .i64 t', .int .i64 l'] 23)).alloc (.cells #[.int .i64 0, .int .i64 0] 23)).alloc (.cells #[.int .i64 t, .int .i64 l, .int .i64 t', .int .i64 l'] 23)).heap[w.heap.size + 1]? = some (.cells #[.int .i64 t', .int .i64 l'] 23 (0, 0)) := blk_alloc (blk_alloc (blk_at _ (by simp)) _) _
    have a3 : ((((w.alloc (.cells #[.int .i64 t, .int .i64 l] 23)).alloc (.cells #[.int .i64 t', .int .i64 l'] 23)).alloc (.cells #[.int .i64 0, .int .i64 0] 23)).alloc (.cells #[.int .i64 t, .int .i64 l, .int .i64 t', .int .i64 l'] 23)).heap[w.heap.size + 1 + 1]? = some (.cells #[.int .i64 0, .int .i64 0] 23 (0, 0)) := blk_alloc (blk_at _ (by simp)) _
    have a4 : ((((w.alloc (.cells #[.int .i64 t, .int .i64 l] 23)).alloc (.cells #[.int .i64 t', .int .i64 l'] 23)).alloc (.cells #[.int .i64 0, .int .i64 0] 23)).alloc (.cells #[.int .i64 t, .int .i64 l, .int .i64 t', .int .i64 l'] 23)).heap[w.heap.size + 1 + 1 + 1]? = some (.cells #[.int .i64 t, .int .i64 l, .int .i64 t', .int .i64 l'] 23 (0, 0)) := blk_at _ (by simp)
    generalize (((w.alloc (.cells #[.int .i64 t, .int .i64 l] 23)).alloc (.cells #[.int .i64 t', .int .i64 l'] 23)).alloc (.cells #[.int .i64 0, .int .i64 0] 23)).alloc (.cells #[.int .i64 t, .int .i64 l, .int .i64 t', .int .i64 l'] 23) = W0 at *
    refine (rall_calls _ 2 2 [(t, l), (t', l')] _ (RdN.two a4) I64P.out).mono ?_
    rintro e w1 ⟨he, hB1⟩
    rw [DEC.out] at he
    subst he
    replace a1 := blk_below a1 hB1
    replace a2 := blk_below a2 hB1
    replace a3 := blk_below a3 hB1
    replace B0 := bl_then B0 hB1
    clear hB1 a4
    obtain ⟨z1, z2, z3, z4⟩ := bx2 a3
    go_wp2
    refine bodyPost_ret (results_cell_tmp_row rfl _ _ (w.heap.size + 1 + 1) 23 #[.int .i64 0, .int .i64 0] (0, 0) _ _ rfl (by first | exact a3 | exact blk_set2 a3 _ _) Try.underlying23 rfl (by kernel_rfl) rfl) rfl ?_
    exact ⟨rfl, by first | exact B0 | exact bl_set (bl_set B0 (by show w.heap.size ≤ w.heap.size + 1 + 1; omega) _) (by show w.heap.size ≤ w.heap.size + 1 + 1; omega) _⟩

set_option maxHeartbeats 8000000 in
set_option maxRecDepth 100000 in
theorem rnmul_calls (t l t' l' : Int) (w : World) (h0 : -9223372036854775808 ≤ t) (h1 : t ≤ 9223372036854775807) (h2 : -9223372036854775808 ≤ l) (h3 : l ≤ 9223372036854775807) (h0' : -9223372036854775808 ≤ t') (h1' : t' ≤ 9223372036854775807) (h2' : -9223372036854775808 ≤ l') (h3' : l' ≤ 9223372036854775807) :
    Calls Try.prog 27 #[.agg #[.int .i64 t, .int .i64 l], .agg #[.int .i64 t', .int .i64 l']] w fun e w' => NumR e (rT (OkN t l ∧ OkN t' l') (Rat.divInt t l * Rat.divInt t' l')) (rL (OkN t l ∧ OkN t' l') (Rat.divInt t l * Rat.divInt t' l')) (rE (OkN t l ∧ OkN t' l') (Rat.divInt t l * Rat.divInt t' l')) ∧ Below w.heap.size w w' := by
  by_cases hok : OkN t l ∧ OkN t' l'
  · unfold rT rL rE
    rw [if_pos hok, if_pos hok, if_pos hok]
    have DEC : Hid (decide (OkNs [(t, l), (t', l')]) = true) := Lib.hid (decide_eq_true ((OkNs.two _ _ _ _).2 hok))
    have I64P : Hid (I64s [(t, l), (t', l')]) := Lib.hid (by intro x hx; simp at hx; rcases hx with rfl | rfl; exact ⟨⟨h0, h1⟩, h2, h3⟩; exact ⟨⟨h0', h1'⟩, h2', h3'⟩)
    have SQ := (num_sz hok.1).1
    have SR := (num_sz hok.2).1
    have ok1 := Lib.hid hok.1
    have ok2 := Lib.hid hok.2
    clear hok
    generalize hq : Rat.divInt t l = q at *
    generalize hr : Rat.divInt t' l' = r at *
    have HQ := Lib.hid hq
    have HR := Lib.hid hr
    clear hq hr
    generalize hT : outT (q * r) = oT
    replace hT := Lib.hid hT
    generalize hL : outL (q * r) = oL
    replace hL := Lib.hid hL
    generalize hE : outE (q * r) = oE
    replace hE := Lib.hid hE
    go_enter Try.func27, Try.ntmps27
    go_wp2_with fail
    have B0 := bl_alloc (bl_alloc (bl_alloc (bl_alloc (Below.refl w.heap.size w) (.cells #[.int .i64 t, .int .i64 l] 23)) (.cells #[.int .i64 t', .int .i64 l'] 23)) (.cells #[.int .i64 0, .int .i64 0] 23)) (.cells #[.int .i64 t, .int .i64 l, .int .i64 t', .int .i64 l'] 23)
    have a1 : ((((w.alloc (.cells #[.int .i64 t, .int .i64 l] 23)).alloc (.cells #[.int .i64 t', .int .i64 l'] 23)).alloc (.cells #[.int .i64 0, .int .i64 0] 23)).alloc (.cells #[.int .i64 t, .int .i64 l, .int .i64 t', .int .i64 l'] 23)).heap[w.heap.size]? = some (.cells #[.int .i64 t, .int .i64 l] 23 (0, 0)) := blk_alloc (blk_alloc (blk_alloc (blk_at _ rfl) _) _) _
    have a2 : ((((w.alloc (.cells #[.int .i64 t, .int .i64 l] 23)).alloc (.cells #[.int .i64 t', .int .i64 l'] 23)).alloc (.cells #[.int .i64 0, .int .i64 0] 23)).alloc (.cells #[.int .i64 t, .int .i64 l, .int .i64 t', .int .i64 l'] 23)).heap[w.heap.size + 1]? = some (.cells #[.int .i64 t', .int .i64 l'] 23 (0, 0)) := blk_alloc (blk_alloc (blk_at _ (by simp)) _) _
    have a3 : ((((w.alloc (.cells #[.int .i64 t, .int .i64 l] 23)).alloc (.cells #[.int .i64 t', .int .i64 l'] 23)).alloc (.cells #[.int .i64 0, .int .i64 0] 23)).alloc (.cells #[.int .i64 t, .int .i64 l, .int .i64 t', .int .i64 l'] 23)).heap[w.heap.size + 1 + 1]? = some (.cells #[.int .i64 0, .int .i64 0] 23 (0, 0)) := blk_alloc (blk_at _ (by simp)) _
    have a4 : ((((w.alloc (.cells #[.int .i64 t, .int .i64 l] 23)).alloc (.cells #[.int .i64 t', .int .i64 l'] 23)).alloc (.cells #[.int .i64 0, .int .i64 0] 23)).alloc (.cells #[.int .i64 t, .int .i64 l, .int .i64 t', .int .i64 l'] 23)).heap[w.heap.size + 1 + 1 + 1]? = some (.cells #[.int .i64 t, .int .i64 l, .int .i64 t', .int .i64 l'] 23 (0, 0)) := blk_at _ (by simp)
    generalize (((w.alloc (.cells #[.int .i64 t, .int .i64 l] 23)).alloc (.cells #[.int .i64 t', .int .i64 l'] 23)).alloc (.cells #[.int .i64 0, .int .i64 0] 23)).alloc (.cells #[.int .i64 t, .int .i64 l, .int .i64 t', .int .i64 l'] 23) = W0 at *
    refine (rall_calls _ 2 2 [(t, l), (t', l')] _ (RdN.two a4) I64P.out).mono ?_
    rintro e w1 ⟨he, hB1⟩
    rw [DEC.out] at he
    subst he
    replace a1 := blk_below a1 hB1
    replace a2 := blk_below a2 hB1
    replace a3 := blk_below a3 hB1
    replace B0 := bl_then B0 hB1
    clear hB1 a4
    have N13 := Lib.hid (show w.heap.size ≠ w.heap.size + 1 + 1 by omega)
    have N23 := Lib.hid (show w.heap.size + 1 ≠ w.heap.size + 1 + 1 by omega)
    have a1_0 := a1
    have a2_0 := a2
    have a3_0 := a3
    have HB_0 := B0
    obtain ⟨p1, p2, p3, p4⟩ := bx2 a1
    obtain ⟨q1, q2, q3, q4⟩ := bx2 a2
    go_wp2_with fail
    go_region_held3 (fun W => W.cell? ⟨w.heap.size, 0, none⟩ = some (Value.int .i64 t) ∧ W.cell? ⟨w.heap.size, 1, none⟩ = some (Value.int .i64 l) ∧ W.cell? ⟨w.heap.size + 1, 0, none⟩ = some (Value.int .i64 t') ∧ W.cell? ⟨w.heap.size + 1, 1, none⟩ = some (Value.int .i64 l')) (first | with_reducible exact P4 | with_reducible exact P3 | with_reducible exact P2 | with_reducible exact P1 | with_reducible exact (j2 (cx2 (blk_drew a1_0)) (cx2 (blk_drew a2_0))) | with_reducible exact (j2 (cx2 (blk_farN (a1_4) N13.out _ _)) (cx2 (blk_farN (a2_4) N23.out _ _))) | go_keep) (first | (have _hh := HB_3; go_at_call 42; refine (rnum_calls s3 b3 A3 n3 c3 s3' b3' A3' n3' c3' (q * r) _ (by repeat (first | with_reducible exact r3_3 | with_reducible refine RRV.kp ?_ (Kp.refl _ _).drew))).mono ?_; rintro e ww4 ⟨hen, hB4⟩; rw [hT.out, hL.out, hE.out] at hen; unfold NumR at hen; subst hen; have a1_4 : ww4.heap[w.heap.size]? = some (.cells #[.int .i64 t, .int .i64 l] 23 (0, 0)) := (by repeat (first | with_reducible exact a1_3 | with_reducible refine blk_below ?_ hB4 | with_reducible refine blk_drew ?_)); have a2_4 : ww4.heap[w.heap.size + 1]? = some (.cells #[.int .i64 t', .int .i64 l'] 23 (0, 0)) := (by repeat (first | with_reducible exact a2_3 | with_reducible refine blk_below ?_ hB4 | with_reducible refine blk_drew ?_)); have a3_4 : ww4.heap[w.heap.size + 1 + 1]? = some (.cells #[.int .i64 0, .int .i64 0] 23 (0, 0)) := (by repeat (first | with_reducible exact a3_3 | with_reducible refine blk_below ?_ hB4 | with_reducible refine blk_drew ?_)); have r1_4 : RRV ww4 s1 b1 A1 n1 c1 s1' b1' A1' n1' c1' q := (by repeat (first | with_reducible exact r1_3 | with_reducible refine RRV.below ?_ hB4 | with_reducible refine RRV.kp ?_ (Kp.refl _ _).drew)); have r2_4 : RRV ww4 s2 b2 A2 n2 c2 s2' b2' A2' n2' c2' r := (by repeat (first | with_reducible exact r2_3 | with_reducible refine RRV.below ?_ hB4 | with_reducible refine RRV.kp ?_ (Kp.refl _ _).drew)); have r3_4 : RRV ww4 s3 b3 A3 n3 c3 s3' b3' A3' n3' c3' (q * r) := (by repeat (first | with_reducible exact r3_3 | with_reducible refine RRV.below ?_ hB4 | with_reducible refine RRV.kp ?_ (Kp.refl _ _).drew)); have HB_4 : Below w.heap.size w ww4 := (by repeat (first | with_reducible exact HB_3 | with_reducible refine bl_then ?_ hB4 | with_reducible refine bl_drew ?_)); have P4 := j2 (cx2 (a1_4)) (cx2 (a2_4)); obtain ⟨z1, z2, z3, z4⟩ := bx2 a3_4) | (have _hh := HB_2; go_at_call 64; refine (rrtimes_calls s1 b1 A1 n1 c1 s1' b1' A1' n1' c1' q s2 b2 A2 n2 c2 s2' b2' A2' n2' c2' r _ (by repeat (first | with_reducible exact r1_2 | with_reducible refine RRV.kp ?_ (Kp.refl _ _).drew)) (by repeat (first | with_reducible exact r2_2 | with_reducible refine RRV.kp ?_ (Kp.refl _ _).drew)) 64 SQ SR (by omega)).mono ?_; rintro e ww3 ⟨⟨s3, b3, A3, n3, c3, s3', b3', A3', n3', c3', rfl, r3_3⟩, hB3⟩; have a1_3 : ww3.heap[w.heap.size]? = some (.cells #[.int .i64 t, .int .i64 l] 23 (0, 0)) := (by repeat (first | with_reducible exact a1_2 | with_reducible refine blk_below ?_ hB3 | with_reducible refine blk_drew ?_)); have a2_3 : ww3.heap[w.heap.size + 1]? = some (.cells #[.int .i64 t', .int .i64 l'] 23 (0, 0)) := (by repeat (first | with_reducible exact a2_2 | with_reducible refine blk_below ?_ hB3 | with_reducible refine blk_drew ?_)); have a3_3 : ww3.heap[w.heap.size + 1 + 1]? = some (.cells #[.int .i64 0, .int .i64 0] 23 (0, 0)) := (by repeat (first | with_reducible exact a3_2 | with_reducible refine blk_below ?_ hB3 | with_reducible refine blk_drew ?_)); have r1_3 : RRV ww3 s1 b1 A1 n1 c1 s1' b1' A1' n1' c1' q := (by repeat (first | with_reducible exact r1_2 | with_reducible refine RRV.below ?_ hB3 | with_reducible refine RRV.kp ?_ (Kp.refl _ _).drew)); have r2_3 : RRV ww3 s2 b2 A2 n2 c2 s2' b2' A2' n2' c2' r := (by repeat (first | with_reducible exact r2_2 | with_reducible refine RRV.below ?_ hB3 | with_reducible refine RRV.kp ?_ (Kp.refl _ _).drew)); have HB_3 : Below w.heap.size w ww3 := (by repeat (first | with_reducible exact HB_2 | with_reducible refine bl_then ?_ hB3 | with_reducible refine bl_drew ?_)); have P3 := j2 (cx2 (a1_3)) (cx2 (a2_3))) | (have _hh := HB_1; go_at_call_of 13 (Value.agg #[.int .i64 t', .int .i64 l']); refine (rto_calls t' l' _ ok2.out).mono ?_; rintro e ww2 ⟨⟨s2, b2, A2, n2, c2, s2', b2', A2', n2', c2', rfl, r2_2⟩, hB2⟩; rw [HR.out] at r2_2; have a1_2 : ww2.heap[w.heap.size]? = some (.cells #[.int .i64 t, .int .i64 l] 23 (0, 0)) := (by repeat (first | with_reducible exact a1_1 | with_reducible refine blk_below ?_ hB2 | with_reducible refine blk_drew ?_)); have a2_2 : ww2.heap[w.heap.size + 1]? = some (.cells #[.int .i64 t', .int .i64 l'] 23 (0, 0)) := (by repeat (first | with_reducible exact a2_1 | with_reducible refine blk_below ?_ hB2 | with_reducible refine blk_drew ?_)); have a3_2 : ww2.heap[w.heap.size + 1 + 1]? = some (.cells #[.int .i64 0, .int .i64 0] 23 (0, 0)) := (by repeat (first | with_reducible exact a3_1 | with_reducible refine blk_below ?_ hB2 | with_reducible refine blk_drew ?_)); have r1_2 : RRV ww2 s1 b1 A1 n1 c1 s1' b1' A1' n1' c1' q := (by repeat (first | with_reducible exact r1_1 | with_reducible refine RRV.below ?_ hB2 | with_reducible refine RRV.kp ?_ (Kp.refl _ _).drew)); have HB_2 : Below w.heap.size w ww2 := (by repeat (first | with_reducible exact HB_1 | with_reducible refine bl_then ?_ hB2 | with_reducible refine bl_drew ?_)); have P2 := j2 (cx2 (a1_2)) (cx2 (a2_2))) | (go_at_call_of 13 (Value.agg #[.int .i64 t, .int .i64 l]); refine (rto_calls t l _ ok1.out).mono ?_; rintro e ww1 ⟨⟨s1, b1, A1, n1, c1, s1', b1', A1', n1', c1', rfl, r1_1⟩, hB1⟩; rw [HQ.out] at r1_1; have a1_1 : ww1.heap[w.heap.size]? = some (.cells #[.int .i64 t, .int .i64 l] 23 (0, 0)) := (by repeat (first | with_reducible exact a1_0 | with_reducible refine blk_below ?_ hB1 | with_reducible refine blk_drew ?_)); have a2_1 : ww1.heap[w.heap.size + 1]? = some (.cells #[.int .i64 t', .int .i64 l'] 23 (0, 0)) := (by repeat (first | with_reducible exact a2_0 | with_reducible refine blk_below ?_ hB1 | with_reducible refine blk_drew ?_)); have a3_1 : ww1.heap[w.heap.size + 1 + 1]? = some (.cells #[.int .i64 0, .int .i64 0] 23 (0, 0)) := (by repeat (first | with_reducible exact a3_0 | with_reducible refine blk_below ?_ hB1 | with_reducible refine blk_drew ?_)); have HB_1 : Below w.heap.size w ww1 := (by repeat (first | with_reducible exact HB_0 | with_reducible refine bl_then ?_ hB1 | with_reducible refine bl_drew ?_)); have P1 := j2 (cx2 (a1_1)) (cx2 (a2_1))) | fail)
    all_goals
      go_wp2
      refine bodyPost_ret (results_cell_tmp_row rfl _ _ (w.heap.size + 1 + 1) 23 #[.int .i64 oT, .int .i64 oL] (0, 0) _ _ rfl (by exact blk_set2 a3_4 _ _) Try.underlying23 rfl (by kernel_rfl) rfl) rfl ?_
      exact ⟨rfl, bl_set (bl_set HB_4 (by show w.heap.size ≤ w.heap.size + 1 + 1; omega) _) (by show w.heap.size ≤ w.heap.size + 1 + 1; omega) _⟩
  · unfold rT rL rE
    rw [if_neg hok, if_neg hok, if_neg hok]
    have DEC : Hid (decide (OkNs [(t, l), (t', l')]) = false) := Lib.hid (decide_eq_false (fun h => hok ((OkNs.two _ _ _ _).1 h)))
    have I64P : Hid (I64s [(t, l), (t', l')]) := Lib.hid (by intro x hx; simp at hx; rcases hx with rfl | rfl; exact ⟨⟨h0, h1⟩, h2, h3⟩; exact ⟨⟨h0', h1'⟩, h2', h3'⟩)
    clear hok
    go_enter Try.func27, Try.ntmps27
    go_wp2_with fail
    have B0 := bl_alloc (bl_alloc (bl_alloc (bl_alloc (Below.refl w.heap.size w) (.cells #[.int .i64 t, .int .i64 l] 23)) (.cells #[.int .i64 t', .int .i64 l'] 23)) (.cells #[.int .i64 0, .int .i64 0] 23)) (.cells #[.int .i64 t, .int .i64 l, .int .i64 t', .int .i64 l'] 23)
    have a1 : ((((w.alloc (.cells #[.int .i64 t, .int .i64 l] 23)).alloc (.cells #[.int .i64 t', .int .i64 l'] 23)).alloc (.cells #[.int .i64 0, .int .i64 0] 23)).alloc (.cells #[.int .i64 t, .int .i64 l, .int .i64 t', .int .i64 l'] 23)).heap[w.heap.size]? = some (.cells #[.int .i64 t, .int .i64 l] 23 (0, 0)) := blk_alloc (blk_alloc (blk_alloc (blk_at _ rfl) _) _) _
    have a2 : ((((w.alloc (.cells #[.int .i64 t, .int .i64 l] 23)).alloc (.cells #[.int .i64 t', .int .i64 l'] 23)).alloc (.cells #[.int .i64 0, .int .i64 0] 23)).alloc (.cells #[.int .i64 t, .int .i64 l, .int .i64 t', .int .i64 l'] 23)).heap[w.heap.size + 1]? = some (.cells #[.int .i64 t', .int .i64 l'] 23 (0, 0)) := blk_alloc (blk_alloc (blk_at _ (by simp)) _) _
    have a3 : ((((w.alloc (.cells #[.int .i64 t, .int .i64 l] 23)).alloc (.cells #[.int .i64 t', .int .i64 l'] 23)).alloc (.cells #[.int .i64 0, .int .i64 0] 23)).alloc (.cells #[.int .i64 t, .int .i64 l, .int .i64 t', .int .i64 l'] 23)).heap[w.heap.size + 1 + 1]? = some (.cells #[.int .i64 0, .int .i64 0] 23 (0, 0)) := blk_alloc (blk_at _ (by simp)) _
    have a4 : ((((w.alloc (.cells #[.int .i64 t, .int .i64 l] 23)).alloc (.cells #[.int .i64 t', .int .i64 l'] 23)).alloc (.cells #[.int .i64 0, .int .i64 0] 23)).alloc (.cells #[.int .i64 t, .int .i64 l, .int .i64 t', .int .i64 l'] 23)).heap[w.heap.size + 1 + 1 + 1]? = some (.cells #[.int .i64 t, .int .i64 l, .int .i64 t', .int .i64 l'] 23 (0, 0)) := blk_at _ (by simp)
    generalize (((w.alloc (.cells #[.int .i64 t, .int .i64 l] 23)).alloc (.cells #[.int .i64 t', .int .i64 l'] 23)).alloc (.cells #[.int .i64 0, .int .i64 0] 23)).alloc (.cells #[.int .i64 t, .int .i64 l, .int .i64 t', .int .i64 l'] 23) = W0 at *
    refine (rall_calls _ 2 2 [(t, l), (t', l')] _ (RdN.two a4) I64P.out).mono ?_
    rintro e w1 ⟨he, hB1⟩
    rw [DEC.out] at he
    subst he
    replace a1 := blk_below a1 hB1
    replace a2 := blk_below a2 hB1
    replace a3 := blk_below a3 hB1
    replace B0 := bl_then B0 hB1
    clear hB1 a4
    obtain ⟨z1, z2, z3, z4⟩ := bx2 a3
    go_wp2
    refine bodyPost_ret (results_cell_tmp_row rfl _ _ (w.heap.size + 1 + 1) 23 #[.int .i64 0, .int .i64 0] (0, 0) _ _ rfl (by first | exact a3 | exact blk_set2 a3 _ _) Try.underlying23 rfl (by kernel_rfl) rfl) rfl ?_
    exact ⟨rfl, by first | exact B0 | exact bl_set (bl_set B0 (by show w.heap.size ≤ w.heap.size + 1 + 1; omega) _) (by show w.heap.size ≤ w.heap.size + 1 + 1; omega) _⟩

set_option maxHeartbeats 8000000 in
set_option maxRecDepth 100000 in
theorem rndiv_calls (t l t' l' : Int) (w : World) (h0 : -9223372036854775808 ≤ t) (h1 : t ≤ 9223372036854775807) (h2 : -9223372036854775808 ≤ l) (h3 : l ≤ 9223372036854775807) (h0' : -9223372036854775808 ≤ t') (h1' : t' ≤ 9223372036854775807) (h2' : -9223372036854775808 ≤ l') (h3' : l' ≤ 9223372036854775807) :
    Calls Try.prog 28 #[.agg #[.int .i64 t, .int .i64 l], .agg #[.int .i64 t', .int .i64 l']] w fun e w' => NumR e (dT t l t' l') (dL t l t' l') (dE t l t' l') ∧ Below w.heap.size w w' := by
  unfold dT dL dE rT rL rE
  by_cases hok : OkN t l ∧ OkN t' l'
  · by_cases hz : t' = 0
    · rw [if_pos ⟨hok, hz⟩, if_pos ⟨hok, hz⟩, if_pos ⟨hok, hz⟩]
      have DEC : Hid (decide (OkNs [(t, l), (t', l')]) = true) := Lib.hid (decide_eq_true ((OkNs.two _ _ _ _).2 hok))
      have I64P : Hid (I64s [(t, l), (t', l')]) := Lib.hid (by intro x hx; simp at hx; rcases hx with rfl | rfl; exact ⟨⟨h0, h1⟩, h2, h3⟩; exact ⟨⟨h0', h1'⟩, h2', h3'⟩)
      clear hok
      replace hz := Lib.hid hz
      go_enter Try.func28, Try.ntmps28
      go_wp2_with fail
      have B0 := bl_alloc (bl_alloc (bl_alloc (bl_alloc (Below.refl w.heap.size w) (.cells #[.int .i64 t, .int .i64 l] 23)) (.cells #[.int .i64 t', .int .i64 l'] 23)) (.cells #[.int .i64 0, .int .i64 0] 23)) (.cells #[.int .i64 t, .int .i64 l, .int .i64 t', .int .i64 l'] 23)
      have a1 : ((((w.alloc (.cells #[.int .i64 t, .int .i64 l] 23)).alloc (.cells #[.int .i64 t', .int .i64 l'] 23)).alloc (.cells #[.int .i64 0, .int .i64 0] 23)).alloc (.cells #[.int .i64 t, .int .i64 l, .int .i64 t', .int .i64 l'] 23)).heap[w.heap.size]? = some (.cells #[.int .i64 t, .int .i64 l] 23 (0, 0)) := blk_alloc (blk_alloc (blk_alloc (blk_at _ rfl) _) _) _
      have a2 : ((((w.alloc (.cells #[.int .i64 t, .int .i64 l] 23)).alloc (.cells #[.int .i64 t', .int .i64 l'] 23)).alloc (.cells #[.int .i64 0, .int .i64 0] 23)).alloc (.cells #[.int .i64 t, .int .i64 l, .int .i64 t', .int .i64 l'] 23)).heap[w.heap.size + 1]? = some (.cells #[.int .i64 t', .int .i64 l'] 23 (0, 0)) := blk_alloc (blk_alloc (blk_at _ (by simp)) _) _
      have a3 : ((((w.alloc (.cells #[.int .i64 t, .int .i64 l] 23)).alloc (.cells #[.int .i64 t', .int .i64 l'] 23)).alloc (.cells #[.int .i64 0, .int .i64 0] 23)).alloc (.cells #[.int .i64 t, .int .i64 l, .int .i64 t', .int .i64 l'] 23)).heap[w.heap.size + 1 + 1]? = some (.cells #[.int .i64 0, .int .i64 0] 23 (0, 0)) := blk_alloc (blk_at _ (by simp)) _
      have a4 : ((((w.alloc (.cells #[.int .i64 t, .int .i64 l] 23)).alloc (.cells #[.int .i64 t', .int .i64 l'] 23)).alloc (.cells #[.int .i64 0, .int .i64 0] 23)).alloc (.cells #[.int .i64 t, .int .i64 l, .int .i64 t', .int .i64 l'] 23)).heap[w.heap.size + 1 + 1 + 1]? = some (.cells #[.int .i64 t, .int .i64 l, .int .i64 t', .int .i64 l'] 23 (0, 0)) := blk_at _ (by simp)
      generalize (((w.alloc (.cells #[.int .i64 t, .int .i64 l] 23)).alloc (.cells #[.int .i64 t', .int .i64 l'] 23)).alloc (.cells #[.int .i64 0, .int .i64 0] 23)).alloc (.cells #[.int .i64 t, .int .i64 l, .int .i64 t', .int .i64 l'] 23) = W0 at *
      refine (rall_calls _ 2 2 [(t, l), (t', l')] _ (RdN.two a4) I64P.out).mono ?_
      rintro e w1 ⟨he, hB1⟩
      rw [DEC.out] at he
      subst he
      replace a1 := blk_below a1 hB1
      replace a2 := blk_below a2 hB1
      replace a3 := blk_below a3 hB1
      replace B0 := bl_then B0 hB1
      clear hB1 a4
      have hz0 : (t' == 0) = true := by simp [hz.out]
      obtain ⟨q1, q2, q3, q4⟩ := bx2 a2
      obtain ⟨z1, z2, z3, z4⟩ := bx2 a3
      go_wp2
      refine bodyPost_ret (results_cell_tmp_row rfl _ _ (w.heap.size + 1 + 1) 23 #[.int .i64 0, .int .i64 0] (0, 0) _ _ rfl (by first | exact a3 | exact blk_set2 a3 _ _) Try.underlying23 rfl (by kernel_rfl) rfl) rfl ?_
      exact ⟨rfl, by first | exact B0 | exact bl_set (bl_set B0 (by show w.heap.size ≤ w.heap.size + 1 + 1; omega) _) (by show w.heap.size ≤ w.heap.size + 1 + 1; omega) _⟩
    · have nn : ¬ ((OkN t l ∧ OkN t' l') ∧ t' = 0) := fun h => hz h.2
      rw [if_neg nn, if_neg nn, if_neg nn, if_pos hok, if_pos hok, if_pos hok]
      have hzb : (t' == 0) = false := by simp [hz]
      have hr0 : Hid (Rat.divInt t' l' ≠ 0) := Lib.hid (fun hh => hz (by have := (num_sz hok.2).2.1; rw [hh] at this; simpa using this.symm))
      replace hz : Hid (t' ≠ 0) := Lib.hid hz
      clear nn
      have DEC : Hid (decide (OkNs [(t, l), (t', l')]) = true) := Lib.hid (decide_eq_true ((OkNs.two _ _ _ _).2 hok))
      have I64P : Hid (I64s [(t, l), (t', l')]) := Lib.hid (by intro x hx; simp at hx; rcases hx with rfl | rfl; exact ⟨⟨h0, h1⟩, h2, h3⟩; exact ⟨⟨h0', h1'⟩, h2', h3'⟩)
      have SQ := (num_sz hok.1).1
      have SR := (num_sz hok.2).1
      have ok1 := Lib.hid hok.1
      have ok2 := Lib.hid hok.2
      clear hok
      generalize hq : Rat.divInt t l = q at *
      generalize hr : Rat.divInt t' l' = r at *
      have HQ := Lib.hid hq
      have HR := Lib.hid hr
      clear hq hr
      generalize hT : outT (q / r) = oT
      replace hT := Lib.hid hT
      generalize hL : outL (q / r) = oL
      replace hL := Lib.hid hL
      generalize hE : outE (q / r) = oE
      replace hE := Lib.hid hE
      go_enter Try.func28, Try.ntmps28
      go_wp2_with fail
      have B0 := bl_alloc (bl_alloc (bl_alloc (bl_alloc (Below.refl w.heap.size w) (.cells #[.int .i64 t, .int .i64 l] 23)) (.cells #[.int .i64 t', .int .i64 l'] 23)) (.cells #[.int .i64 0, .int .i64 0] 23)) (.cells #[.int .i64 t, .int .i64 l, .int .i64 t', .int .i64 l'] 23)
      have a1 : ((((w.alloc (.cells #[.int .i64 t, .int .i64 l] 23)).alloc (.cells #[.int .i64 t', .int .i64 l'] 23)).alloc (.cells #[.int .i64 0, .int .i64 0] 23)).alloc (.cells #[.int .i64 t, .int .i64 l, .int .i64 t', .int .i64 l'] 23)).heap[w.heap.size]? = some (.cells #[.int .i64 t, .int .i64 l] 23 (0, 0)) := blk_alloc (blk_alloc (blk_alloc (blk_at _ rfl) _) _) _
      have a2 : ((((w.alloc (.cells #[.int .i64 t, .int .i64 l] 23)).alloc (.cells #[.int .i64 t', .int .i64 l'] 23)).alloc (.cells #[.int .i64 0, .int .i64 0] 23)).alloc (.cells #[.int .i64 t, .int .i64 l, .int .i64 t', .int .i64 l'] 23)).heap[w.heap.size + 1]? = some (.cells #[.int .i64 t', .int .i64 l'] 23 (0, 0)) := blk_alloc (blk_alloc (blk_at _ (by simp)) _) _
      have a3 : ((((w.alloc (.cells #[.int .i64 t, .int .i64 l] 23)).alloc (.cells #[.int .i64 t', .int .i64 l'] 23)).alloc (.cells #[.int .i64 0, .int .i64 0] 23)).alloc (.cells #[.int .i64 t, .int .i64 l, .int .i64 t', .int .i64 l'] 23)).heap[w.heap.size + 1 + 1]? = some (.cells #[.int .i64 0, .int .i64 0] 23 (0, 0)) := blk_alloc (blk_at _ (by simp)) _
      have a4 : ((((w.alloc (.cells #[.int .i64 t, .int .i64 l] 23)).alloc (.cells #[.int .i64 t', .int .i64 l'] 23)).alloc (.cells #[.int .i64 0, .int .i64 0] 23)).alloc (.cells #[.int .i64 t, .int .i64 l, .int .i64 t', .int .i64 l'] 23)).heap[w.heap.size + 1 + 1 + 1]? = some (.cells #[.int .i64 t, .int .i64 l, .int .i64 t', .int .i64 l'] 23 (0, 0)) := blk_at _ (by simp)
      generalize (((w.alloc (.cells #[.int .i64 t, .int .i64 l] 23)).alloc (.cells #[.int .i64 t', .int .i64 l'] 23)).alloc (.cells #[.int .i64 0, .int .i64 0] 23)).alloc (.cells #[.int .i64 t, .int .i64 l, .int .i64 t', .int .i64 l'] 23) = W0 at *
      refine (rall_calls _ 2 2 [(t, l), (t', l')] _ (RdN.two a4) I64P.out).mono ?_
      rintro e w1 ⟨he, hB1⟩
      rw [DEC.out] at he
      subst he
      replace a1 := blk_below a1 hB1
      replace a2 := blk_below a2 hB1
      replace a3 := blk_below a3 hB1
      replace B0 := bl_then B0 hB1
      clear hB1 a4
      have N13 := Lib.hid (show w.heap.size ≠ w.heap.size + 1 + 1 by omega)
      have N23 := Lib.hid (show w.heap.size + 1 ≠ w.heap.size + 1 + 1 by omega)
      have a1_0 := a1
      have a2_0 := a2
      have a3_0 := a3
      have HB_0 := B0
      obtain ⟨p1, p2, p3, p4⟩ := bx2 a1
      obtain ⟨q1, q2, q3, q4⟩ := bx2 a2
      go_wp2_with fail
      go_region_held3 (fun W => W.cell? ⟨w.heap.size, 0, none⟩ = some (Value.int .i64 t) ∧ W.cell? ⟨w.heap.size, 1, none⟩ = some (Value.int .i64 l) ∧ W.cell? ⟨w.heap.size + 1, 0, none⟩ = some (Value.int .i64 t') ∧ W.cell? ⟨w.heap.size + 1, 1, none⟩ = some (Value.int .i64 l')) (first | with_reducible exact P4 | with_reducible exact P3 | with_reducible exact P2 | with_reducible exact P1 | with_reducible exact (j2 (cx2 (blk_drew a1_0)) (cx2 (blk_drew a2_0))) | with_reducible exact (j2 (cx2 (blk_farN (a1_4) N13.out _ _)) (cx2 (blk_farN (a2_4) N23.out _ _))) | go_keep) (first | (have _hh := HB_3; go_at_call 42; refine (rnum_calls s3 b3 A3 n3 c3 s3' b3' A3' n3' c3' (q / r) _ (by repeat (first | with_reducible exact r3_3 | with_reducible refine RRV.kp ?_ (Kp.refl _ _).drew))).mono ?_; rintro e ww4 ⟨hen, hB4⟩; rw [hT.out, hL.out, hE.out] at hen; unfold NumR at hen; subst hen; have a1_4 : ww4.heap[w.heap.size]? = some (.cells #[.int .i64 t, .int .i64 l] 23 (0, 0)) := (by repeat (first | with_reducible exact a1_3 | with_reducible refine blk_below ?_ hB4 | with_reducible refine blk_drew ?_)); have a2_4 : ww4.heap[w.heap.size + 1]? = some (.cells #[.int .i64 t', .int .i64 l'] 23 (0, 0)) := (by repeat (first | with_reducible exact a2_3 | with_reducible refine blk_below ?_ hB4 | with_reducible refine blk_drew ?_)); have a3_4 : ww4.heap[w.heap.size + 1 + 1]? = some (.cells #[.int .i64 0, .int .i64 0] 23 (0, 0)) := (by repeat (first | with_reducible exact a3_3 | with_reducible refine blk_below ?_ hB4 | with_reducible refine blk_drew ?_)); have r1_4 : RRV ww4 s1 b1 A1 n1 c1 s1' b1' A1' n1' c1' q := (by repeat (first | with_reducible exact r1_3 | with_reducible refine RRV.below ?_ hB4 | with_reducible refine RRV.kp ?_ (Kp.refl _ _).drew)); have r2_4 : RRV ww4 s2 b2 A2 n2 c2 s2' b2' A2' n2' c2' r := (by repeat (first | with_reducible exact r2_3 | with_reducible refine RRV.below ?_ hB4 | with_reducible refine RRV.kp ?_ (Kp.refl _ _).drew)); have r3_4 : RRV ww4 s3 b3 A3 n3 c3 s3' b3' A3' n3' c3' (q / r) := (by repeat (first | with_reducible exact r3_3 | with_reducible refine RRV.below ?_ hB4 | with_reducible refine RRV.kp ?_ (Kp.refl _ _).drew)); have HB_4 : Below w.heap.size w ww4 := (by repeat (first | with_reducible exact HB_3 | with_reducible refine bl_then ?_ hB4 | with_reducible refine bl_drew ?_)); have P4 := j2 (cx2 (a1_4)) (cx2 (a2_4)); obtain ⟨z1, z2, z3, z4⟩ := bx2 a3_4) | (have _hh := HB_2; go_at_call 65; refine (rrover_calls s1 b1 A1 n1 c1 s1' b1' A1' n1' c1' q s2 b2 A2 n2 c2 s2' b2' A2' n2' c2' r _ (by repeat (first | with_reducible exact r1_2 | with_reducible refine RRV.kp ?_ (Kp.refl _ _).drew)) (by repeat (first | with_reducible exact r2_2 | with_reducible refine RRV.kp ?_ (Kp.refl _ _).drew)) 64 SQ SR (by omega) hr0.out).mono ?_; rintro e ww3 ⟨⟨s3, b3, A3, n3, c3, s3', b3', A3', n3', c3', rfl, r3_3⟩, hB3⟩; have a1_3 : ww3.heap[w.heap.size]? = some (.cells #[.int .i64 t, .int .i64 l] 23 (0, 0)) := (by repeat (first | with_reducible exact a1_2 | with_reducible refine blk_below ?_ hB3 | with_reducible refine blk_drew ?_)); have a2_3 : ww3.heap[w.heap.size + 1]? = some (.cells #[.int .i64 t', .int .i64 l'] 23 (0, 0)) := (by repeat (first | with_reducible exact a2_2 | with_reducible refine blk_below ?_ hB3 | with_reducible refine blk_drew ?_)); have a3_3 : ww3.heap[w.heap.size + 1 + 1]? = some (.cells #[.int .i64 0, .int .i64 0] 23 (0, 0)) := (by repeat (first | with_reducible exact a3_2 | with_reducible refine blk_below ?_ hB3 | with_reducible refine blk_drew ?_)); have r1_3 : RRV ww3 s1 b1 A1 n1 c1 s1' b1' A1' n1' c1' q := (by repeat (first | with_reducible exact r1_2 | with_reducible refine RRV.below ?_ hB3 | with_reducible refine RRV.kp ?_ (Kp.refl _ _).drew)); have r2_3 : RRV ww3 s2 b2 A2 n2 c2 s2' b2' A2' n2' c2' r := (by repeat (first | with_reducible exact r2_2 | with_reducible refine RRV.below ?_ hB3 | with_reducible refine RRV.kp ?_ (Kp.refl _ _).drew)); have HB_3 : Below w.heap.size w ww3 := (by repeat (first | with_reducible exact HB_2 | with_reducible refine bl_then ?_ hB3 | with_reducible refine bl_drew ?_)); have P3 := j2 (cx2 (a1_3)) (cx2 (a2_3))) | (have _hh := HB_1; go_at_call_of 13 (Value.agg #[.int .i64 t', .int .i64 l']); refine (rto_calls t' l' _ ok2.out).mono ?_; rintro e ww2 ⟨⟨s2, b2, A2, n2, c2, s2', b2', A2', n2', c2', rfl, r2_2⟩, hB2⟩; rw [HR.out] at r2_2; have a1_2 : ww2.heap[w.heap.size]? = some (.cells #[.int .i64 t, .int .i64 l] 23 (0, 0)) := (by repeat (first | with_reducible exact a1_1 | with_reducible refine blk_below ?_ hB2 | with_reducible refine blk_drew ?_)); have a2_2 : ww2.heap[w.heap.size + 1]? = some (.cells #[.int .i64 t', .int .i64 l'] 23 (0, 0)) := (by repeat (first | with_reducible exact a2_1 | with_reducible refine blk_below ?_ hB2 | with_reducible refine blk_drew ?_)); have a3_2 : ww2.heap[w.heap.size + 1 + 1]? = some (.cells #[.int .i64 0, .int .i64 0] 23 (0, 0)) := (by repeat (first | with_reducible exact a3_1 | with_reducible refine blk_below ?_ hB2 | with_reducible refine blk_drew ?_)); have r1_2 : RRV ww2 s1 b1 A1 n1 c1 s1' b1' A1' n1' c1' q := (by repeat (first | with_reducible exact r1_1 | with_reducible refine RRV.below ?_ hB2 | with_reducible refine RRV.kp ?_ (Kp.refl _ _).drew)); have HB_2 : Below w.heap.size w ww2 := (by repeat (first | with_reducible exact HB_1 | with_reducible refine bl_then ?_ hB2 | with_reducible refine bl_drew ?_)); have P2 := j2 (cx2 (a1_2)) (cx2 (a2_2))) | (go_at_call_of 13 (Value.agg #[.int .i64 t, .int .i64 l]); refine (rto_calls t l _ ok1.out).mono ?_; rintro e ww1 ⟨⟨s1, b1, A1, n1, c1, s1', b1', A1', n1', c1', rfl, r1_1⟩, hB1⟩; rw [HQ.out] at r1_1; have a1_1 : ww1.heap[w.heap.size]? = some (.cells #[.int .i64 t, .int .i64 l] 23 (0, 0)) := (by repeat (first | with_reducible exact a1_0 | with_reducible refine blk_below ?_ hB1 | with_reducible refine blk_drew ?_)); have a2_1 : ww1.heap[w.heap.size + 1]? = some (.cells #[.int .i64 t', .int .i64 l'] 23 (0, 0)) := (by repeat (first | with_reducible exact a2_0 | with_reducible refine blk_below ?_ hB1 | with_reducible refine blk_drew ?_)); have a3_1 : ww1.heap[w.heap.size + 1 + 1]? = some (.cells #[.int .i64 0, .int .i64 0] 23 (0, 0)) := (by repeat (first | with_reducible exact a3_0 | with_reducible refine blk_below ?_ hB1 | with_reducible refine blk_drew ?_)); have HB_1 : Below w.heap.size w ww1 := (by repeat (first | with_reducible exact HB_0 | with_reducible refine bl_then ?_ hB1 | with_reducible refine bl_drew ?_)); have P1 := j2 (cx2 (a1_1)) (cx2 (a2_1))) | fail)
      all_goals
        go_wp2
        refine bodyPost_ret (results_cell_tmp_row rfl _ _ (w.heap.size + 1 + 1) 23 #[.int .i64 oT, .int .i64 oL] (0, 0) _ _ rfl (by exact blk_set2 a3_4 _ _) Try.underlying23 rfl (by kernel_rfl) rfl) rfl ?_
        exact ⟨rfl, bl_set (bl_set HB_4 (by show w.heap.size ≤ w.heap.size + 1 + 1; omega) _) (by show w.heap.size ≤ w.heap.size + 1 + 1; omega) _⟩
  · have nn : ¬ ((OkN t l ∧ OkN t' l') ∧ t' = 0) := fun h => hok h.1
    rw [if_neg nn, if_neg nn, if_neg nn, if_neg hok, if_neg hok, if_neg hok]
    clear nn
    have DEC : Hid (decide (OkNs [(t, l), (t', l')]) = false) := Lib.hid (decide_eq_false (fun h => hok ((OkNs.two _ _ _ _).1 h)))
    have I64P : Hid (I64s [(t, l), (t', l')]) := Lib.hid (by intro x hx; simp at hx; rcases hx with rfl | rfl; exact ⟨⟨h0, h1⟩, h2, h3⟩; exact ⟨⟨h0', h1'⟩, h2', h3'⟩)
    clear hok
    go_enter Try.func28, Try.ntmps28
    go_wp2_with fail
    have B0 := bl_alloc (bl_alloc (bl_alloc (bl_alloc (Below.refl w.heap.size w) (.cells #[.int .i64 t, .int .i64 l] 23)) (.cells #[.int .i64 t', .int .i64 l'] 23)) (.cells #[.int .i64 0, .int .i64 0] 23)) (.cells #[.int .i64 t, .int .i64 l, .int .i64 t', .int .i64 l'] 23)
    have a1 : ((((w.alloc (.cells #[.int .i64 t, .int .i64 l] 23)).alloc (.cells #[.int .i64 t', .int .i64 l'] 23)).alloc (.cells #[.int .i64 0, .int .i64 0] 23)).alloc (.cells #[.int .i64 t, .int .i64 l, .int .i64 t', .int .i64 l'] 23)).heap[w.heap.size]? = some (.cells #[.int .i64 t, .int .i64 l] 23 (0, 0)) := blk_alloc (blk_alloc (blk_alloc (blk_at _ rfl) _) _) _
    have a2 : ((((w.alloc (.cells #[.int .i64 t, .int .i64 l] 23)).alloc (.cells #[.int .i64 t', .int .i64 l'] 23)).alloc (.cells #[.int .i64 0, .int .i64 0] 23)).alloc (.cells #[.int .i64 t, .int .i64 l, .int .i64 t', .int .i64 l'] 23)).heap[w.heap.size + 1]? = some (.cells #[.int .i64 t', .int .i64 l'] 23 (0, 0)) := blk_alloc (blk_alloc (blk_at _ (by simp)) _) _
    have a3 : ((((w.alloc (.cells #[.int .i64 t, .int .i64 l] 23)).alloc (.cells #[.int .i64 t', .int .i64 l'] 23)).alloc (.cells #[.int .i64 0, .int .i64 0] 23)).alloc (.cells #[.int .i64 t, .int .i64 l, .int .i64 t', .int .i64 l'] 23)).heap[w.heap.size + 1 + 1]? = some (.cells #[.int .i64 0, .int .i64 0] 23 (0, 0)) := blk_alloc (blk_at _ (by simp)) _
    have a4 : ((((w.alloc (.cells #[.int .i64 t, .int .i64 l] 23)).alloc (.cells #[.int .i64 t', .int .i64 l'] 23)).alloc (.cells #[.int .i64 0, .int .i64 0] 23)).alloc (.cells #[.int .i64 t, .int .i64 l, .int .i64 t', .int .i64 l'] 23)).heap[w.heap.size + 1 + 1 + 1]? = some (.cells #[.int .i64 t, .int .i64 l, .int .i64 t', .int .i64 l'] 23 (0, 0)) := blk_at _ (by simp)
    generalize (((w.alloc (.cells #[.int .i64 t, .int .i64 l] 23)).alloc (.cells #[.int .i64 t', .int .i64 l'] 23)).alloc (.cells #[.int .i64 0, .int .i64 0] 23)).alloc (.cells #[.int .i64 t, .int .i64 l, .int .i64 t', .int .i64 l'] 23) = W0 at *
    refine (rall_calls _ 2 2 [(t, l), (t', l')] _ (RdN.two a4) I64P.out).mono ?_
    rintro e w1 ⟨he, hB1⟩
    rw [DEC.out] at he
    subst he
    replace a1 := blk_below a1 hB1
    replace a2 := blk_below a2 hB1
    replace a3 := blk_below a3 hB1
    replace B0 := bl_then B0 hB1
    clear hB1 a4
    obtain ⟨z1, z2, z3, z4⟩ := bx2 a3
    go_wp2
    refine bodyPost_ret (results_cell_tmp_row rfl _ _ (w.heap.size + 1 + 1) 23 #[.int .i64 0, .int .i64 0] (0, 0) _ _ rfl (by first | exact a3 | exact blk_set2 a3 _ _) Try.underlying23 rfl (by kernel_rfl) rfl) rfl ?_
    exact ⟨rfl, by first | exact B0 | exact bl_set (bl_set B0 (by show w.heap.size ≤ w.heap.size + 1 + 1; omega) _) (by show w.heap.size ≤ w.heap.size + 1 + 1; omega) _⟩

set_option maxHeartbeats 8000000 in
set_option maxRecDepth 100000 in
theorem rncmp_calls (t l t' l' : Int) (w : World) (h0 : -9223372036854775808 ≤ t) (h1 : t ≤ 9223372036854775807) (h2 : -9223372036854775808 ≤ l) (h3 : l ≤ 9223372036854775807) (h0' : -9223372036854775808 ≤ t') (h1' : t' ≤ 9223372036854775807) (h2' : -9223372036854775808 ≤ l') (h3' : l' ≤ 9223372036854775807) :
    Calls Try.prog 30 #[.agg #[.int .i64 t, .int .i64 l], .agg #[.int .i64 t', .int .i64 l']] w fun e w' => e = .returned (.tuple #[.int .i64 (cR t l t' l'), .int .i64 (cE t l t' l')]) ∧ Below w.heap.size w w' := by
  unfold cR cE
  by_cases hok : OkN t l ∧ OkN t' l'
  · rw [if_pos hok, if_pos hok]
    have DEC : Hid (decide (OkNs [(t, l), (t', l')]) = true) := Lib.hid (decide_eq_true ((OkNs.two _ _ _ _).2 hok))
    have I64P : Hid (I64s [(t, l), (t', l')]) := Lib.hid (by intro x hx; simp at hx; rcases hx with rfl | rfl; exact ⟨⟨h0, h1⟩, h2, h3⟩; exact ⟨⟨h0', h1'⟩, h2', h3'⟩)
    have SQ := (num_sz hok.1).1
    have SR := (num_sz hok.2).1
    have ok1 := Lib.hid hok.1
    have ok2 := Lib.hid hok.2
    clear hok
    generalize hq : Rat.divInt t l = q at *
    generalize hr : Rat.divInt t' l' = r at *
    have HQ := Lib.hid hq
    have HR := Lib.hid hr
    clear hq hr
    generalize hsg : (q - r).num.sign = sg
    have HSG := Lib.hid hsg
    clear hsg
    go_enter Try.func30, Try.ntmps30
    go_wp2_with fail
    have B0 := bl_alloc (bl_alloc (bl_alloc (Below.refl w.heap.size w) (.cells #[.int .i64 t, .int .i64 l] 23)) (.cells #[.int .i64 t', .int .i64 l'] 23)) (.cells #[.int .i64 t, .int .i64 l, .int .i64 t', .int .i64 l'] 23)
    have a1 : (((w.alloc (.cells #[.int .i64 t, .int .i64 l] 23)).alloc (.cells #[.int .i64 t', .int .i64 l'] 23)).alloc (.cells #[.int .i64 t, .int .i64 l, .int .i64 t', .int .i64 l'] 23)).heap[w.heap.size]? = some (.cells #[.int .i64 t, .int .i64 l] 23 (0, 0)) := blk_alloc (blk_alloc (blk_at _ rfl) _) _
    have a2 : (((w.alloc (.cells #[.int .i64 t, .int .i64 l] 23)).alloc (.cells #[.int .i64 t', .int .i64 l'] 23)).alloc (.cells #[.int .i64 t, .int .i64 l, .int .i64 t', .int .i64 l'] 23)).heap[w.heap.size + 1]? = some (.cells #[.int .i64 t', .int .i64 l'] 23 (0, 0)) := blk_alloc (blk_at _ (by simp)) _
    have a3 : (((w.alloc (.cells #[.int .i64 t, .int .i64 l] 23)).alloc (.cells #[.int .i64 t', .int .i64 l'] 23)).alloc (.cells #[.int .i64 t, .int .i64 l, .int .i64 t', .int .i64 l'] 23)).heap[w.heap.size + 1 + 1]? = some (.cells #[.int .i64 t, .int .i64 l, .int .i64 t', .int .i64 l'] 23 (0, 0)) := blk_at _ (by simp)
    generalize ((w.alloc (.cells #[.int .i64 t, .int .i64 l] 23)).alloc (.cells #[.int .i64 t', .int .i64 l'] 23)).alloc (.cells #[.int .i64 t, .int .i64 l, .int .i64 t', .int .i64 l'] 23) = W0 at *
    refine (rall_calls _ 2 2 [(t, l), (t', l')] _ (RdN.two a3) I64P.out).mono ?_
    rintro e w1 ⟨he, hB1⟩
    rw [DEC.out] at he
    subst he
    replace a1 := blk_below a1 hB1
    replace a2 := blk_below a2 hB1
    replace B0 := bl_then B0 hB1
    clear hB1 a3
    have a1_0 := a1
    have a2_0 := a2
    have HB_0 := B0
    obtain ⟨p1, p2, p3, p4⟩ := bx2 a1
    obtain ⟨q1, q2, q3, q4⟩ := bx2 a2
    go_wp2_with fail
    go_region_held3 (fun W => W.cell? ⟨w.heap.size, 0, none⟩ = some (Value.int .i64 t) ∧ W.cell? ⟨w.heap.size, 1, none⟩ = some (Value.int .i64 l) ∧ W.cell? ⟨w.heap.size + 1, 0, none⟩ = some (Value.int .i64 t') ∧ W.cell? ⟨w.heap.size + 1, 1, none⟩ = some (Value.int .i64 l')) (first | with_reducible exact P3 | with_reducible exact P2 | with_reducible exact P1 | with_reducible exact (j2 (cx2 (blk_drew a1_0)) (cx2 (blk_drew a2_0))) | go_keep) (first | (have _hh := HB_2; go_at_call 14; refine (rrcmp_calls s1 b1 A1 n1 c1 s1' b1' A1' n1' c1' q s2 b2 A2 n2 c2 s2' b2' A2' n2' c2' r _ (by repeat (first | with_reducible exact r1_2 | with_reducible refine RRV.kp ?_ (Kp.refl _ _).drew)) (by repeat (first | with_reducible exact r2_2 | with_reducible refine RRV.kp ?_ (Kp.refl _ _).drew)) 64 SQ SR (by omega)).mono ?_; rintro e ww3 ⟨hec, hB3⟩; rw [HSG.out] at hec; subst hec; have a1_3 : ww3.heap[w.heap.size]? = some (.cells #[.int .i64 t, .int .i64 l] 23 (0, 0)) := (by repeat (first | with_reducible exact a1_2 | with_reducible refine blk_below ?_ hB3 | with_reducible refine blk_drew ?_)); have a2_3 : ww3.heap[w.heap.size + 1]? = some (.cells #[.int .i64 t', .int .i64 l'] 23 (0, 0)) := (by repeat (first | with_reducible exact a2_2 | with_reducible refine blk_below ?_ hB3 | with_reducible refine blk_drew ?_)); have r1_3 : RRV ww3 s1 b1 A1 n1 c1 s1' b1' A1' n1' c1' q := (by repeat (first | with_reducible exact r1_2 | with_reducible refine RRV.below ?_ hB3 | with_reducible refine RRV.kp ?_ (Kp.refl _ _).drew)); have r2_3 : RRV ww3 s2 b2 A2 n2 c2 s2' b2' A2' n2' c2' r := (by repeat (first | with_reducible exact r2_2 | with_reducible refine RRV.below ?_ hB3 | with_reducible refine RRV.kp ?_ (Kp.refl _ _).drew)); have HB_3 : Below w.heap.size w ww3 := (by repeat (first | with_reducible exact HB_2 | with_reducible refine bl_then ?_ hB3 | with_reducible refine bl_drew ?_)); have P3 := j2 (cx2 (a1_3)) (cx2 (a2_3))) | (have _hh := HB_1; go_at_call_of 13 (Value.agg #[.int .i64 t', .int .i64 l']); refine (rto_calls t' l' _ ok2.out).mono ?_; rintro e ww2 ⟨⟨s2, b2, A2, n2, c2, s2', b2', A2', n2', c2', rfl, r2_2⟩, hB2⟩; rw [HR.out] at r2_2; have a1_2 : ww2.heap[w.heap.size]? = some (.cells #[.int .i64 t, .int .i64 l] 23 (0, 0)) := (by repeat (first | with_reducible exact a1_1 | with_reducible refine blk_below ?_ hB2 | with_reducible refine blk_drew ?_)); have a2_2 : ww2.heap[w.heap.size + 1]? = some (.cells #[.int .i64 t', .int .i64 l'] 23 (0, 0)) := (by repeat (first | with_reducible exact a2_1 | with_reducible refine blk_below ?_ hB2 | with_reducible refine blk_drew ?_)); have r1_2 : RRV ww2 s1 b1 A1 n1 c1 s1' b1' A1' n1' c1' q := (by repeat (first | with_reducible exact r1_1 | with_reducible refine RRV.below ?_ hB2 | with_reducible refine RRV.kp ?_ (Kp.refl _ _).drew)); have HB_2 : Below w.heap.size w ww2 := (by repeat (first | with_reducible exact HB_1 | with_reducible refine bl_then ?_ hB2 | with_reducible refine bl_drew ?_)); have P2 := j2 (cx2 (a1_2)) (cx2 (a2_2))) | (go_at_call_of 13 (Value.agg #[.int .i64 t, .int .i64 l]); refine (rto_calls t l _ ok1.out).mono ?_; rintro e ww1 ⟨⟨s1, b1, A1, n1, c1, s1', b1', A1', n1', c1', rfl, r1_1⟩, hB1⟩; rw [HQ.out] at r1_1; have a1_1 : ww1.heap[w.heap.size]? = some (.cells #[.int .i64 t, .int .i64 l] 23 (0, 0)) := (by repeat (first | with_reducible exact a1_0 | with_reducible refine blk_below ?_ hB1 | with_reducible refine blk_drew ?_)); have a2_1 : ww1.heap[w.heap.size + 1]? = some (.cells #[.int .i64 t', .int .i64 l'] 23 (0, 0)) := (by repeat (first | with_reducible exact a2_0 | with_reducible refine blk_below ?_ hB1 | with_reducible refine blk_drew ?_)); have HB_1 : Below w.heap.size w ww1 := (by repeat (first | with_reducible exact HB_0 | with_reducible refine bl_then ?_ hB1 | with_reducible refine bl_drew ?_)); have P1 := j2 (cx2 (a1_1)) (cx2 (a2_1))) | fail)
    all_goals
      go_wp2
      go_ret2
      exact ⟨rfl, HB_3⟩
  · rw [if_neg hok, if_neg hok]
    have DEC : Hid (decide (OkNs [(t, l), (t', l')]) = false) := Lib.hid (decide_eq_false (fun h => hok ((OkNs.two _ _ _ _).1 h)))
    have I64P : Hid (I64s [(t, l), (t', l')]) := Lib.hid (by intro x hx; simp at hx; rcases hx with rfl | rfl; exact ⟨⟨h0, h1⟩, h2, h3⟩; exact ⟨⟨h0', h1'⟩, h2', h3'⟩)
    clear hok
    go_enter Try.func30, Try.ntmps30
    go_wp2_with fail
    have B0 := bl_alloc (bl_alloc (bl_alloc (Below.refl w.heap.size w) (.cells #[.int .i64 t, .int .i64 l] 23)) (.cells #[.int .i64 t', .int .i64 l'] 23)) (.cells #[.int .i64 t, .int .i64 l, .int .i64 t', .int .i64 l'] 23)
    have a1 : (((w.alloc (.cells #[.int .i64 t, .int .i64 l] 23)).alloc (.cells #[.int .i64 t', .int .i64 l'] 23)).alloc (.cells #[.int .i64 t, .int .i64 l, .int .i64 t', .int .i64 l'] 23)).heap[w.heap.size]? = some (.cells #[.int .i64 t, .int .i64 l] 23 (0, 0)) := blk_alloc (blk_alloc (blk_at _ rfl) _) _
    have a2 : (((w.alloc (.cells #[.int .i64 t, .int .i64 l] 23)).alloc (.cells #[.int .i64 t', .int .i64 l'] 23)).alloc (.cells #[.int .i64 t, .int .i64 l, .int .i64 t', .int .i64 l'] 23)).heap[w.heap.size + 1]? = some (.cells #[.int .i64 t', .int .i64 l'] 23 (0, 0)) := blk_alloc (blk_at _ (by simp)) _
    have a3 : (((w.alloc (.cells #[.int .i64 t, .int .i64 l] 23)).alloc (.cells #[.int .i64 t', .int .i64 l'] 23)).alloc (.cells #[.int .i64 t, .int .i64 l, .int .i64 t', .int .i64 l'] 23)).heap[w.heap.size + 1 + 1]? = some (.cells #[.int .i64 t, .int .i64 l, .int .i64 t', .int .i64 l'] 23 (0, 0)) := blk_at _ (by simp)
    generalize ((w.alloc (.cells #[.int .i64 t, .int .i64 l] 23)).alloc (.cells #[.int .i64 t', .int .i64 l'] 23)).alloc (.cells #[.int .i64 t, .int .i64 l, .int .i64 t', .int .i64 l'] 23) = W0 at *
    refine (rall_calls _ 2 2 [(t, l), (t', l')] _ (RdN.two a3) I64P.out).mono ?_
    rintro e w1 ⟨he, hB1⟩
    rw [DEC.out] at he
    subst he
    replace a1 := blk_below a1 hB1
    replace a2 := blk_below a2 hB1
    replace B0 := bl_then B0 hB1
    clear hB1 a3
    go_wp2
    go_ret2
    exact ⟨rfl, B0⟩
end Go.Proofs.Ytijdnlkojflnkaa
