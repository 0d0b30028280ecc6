/- reference: divided. -/
import Derived.Test.YtloplmmnmehkmaaGreatRef5
import Derived.Test.YtloplmmnmehkmaaGreatRef3
import Derived.Test.YtloplmmnmehkmaaGreatRefDiv
import Derived.Deep.RegionLawGrows
import Derived.Laws.CopyOwn
set_option linter.unusedVariables false
set_option linter.unusedSimpArgs false
namespace Go.Proofs.YtloplmmnmehkmaaGreat
open Go.RowKit

set_option maxHeartbeats 800000 in
set_option maxRecDepth 100000 in
theorem rscaled_own (A1 : Option Addr) (n1 c1 : Nat) (a : List Int) (m : Int) (w : World) (g1 : RdI w 3 .i64 A1 n1 a) (k1 : Dig 1073741824 a) (b1 : n1 ≤ 1000000001) (m0 : 0 ≤ m) (m1 : m < 1073741824) :
    Calls Tryz.prog 154 #[.slice A1 n1 c1, .int .i64 m] w fun e w' => ∃ (g c : Nat), e = .returned (.slice (some ⟨g, 0, none⟩) (n1 + 1) c) ∧ w.heap.size ≤ g ∧ ∃ ds, w'.ownsRow w.heap.size 3 1 (.slice (some ⟨g, 0, none⟩) (n1 + 1) c) (n1 + 1) (ints .i64 ds) ∧ Dig 1073741824 ds ∧ val 1073741824 ds = m * val 1073741824 a ∧ Below w.heap.size w w' := by
  have I := info_int
  have HI := Lib.hid I
  clear I
  have HK := Lib.hid k1
  have L1 := Lib.hid g1.1
  clear k1
  have B0 := Below.refl w.heap.size w
  go_enter Tryz.func154, Tryz.ntmps154
  go_wp2
  go_loopw [5, 6, 11] (fun v c i wr => ∃ (k : Nat) (ds : List Int) (cy : Int), k ≤ n1 ∧ i = .int .i64 k ∧ c = .int .i64 cy ∧ RSc a m k ds cy ∧ wr.ownsRow w.heap.size 3 1 v ds.length (ints .i64 ds) ∧ Below w.heap.size w wr) (fun _ _ i _ => n1 - (intOf i).toNat)
  case atStart => exact ⟨0, [], 0, Nat.zero_le _, rfl, rfl, RSc.start _ _, ⟨rfl, .inl ⟨rfl, rfl⟩⟩, B0⟩
  case round =>
    clear B0
    obtain ⟨k, ds, cy, hk, rfl, rfl, hp, ho, hB⟩ := hrel
    have hc0 := hp.c0
    have hc1 := hp.c1
    have hl := Lib.hid hp.len
    by_cases hlt : k < n1
    · obtain ⟨ga, oa, rfl, la, ca⟩ := g1.at_ (by omega)
      have ca1 : wr.cell? ⟨ga, oa + k, none⟩ = some (.int .i64 (a.getD k 0)) := (hB.cell (p := ⟨ga, oa + k, none⟩) la).trans (ca k hlt)
      clear ca
      have hs := hp.step HK.out m0 m1
      have da := HK.out.at k (by omega)
      generalize a.getD k 0 = x at *
      have pb := rmul_bounds da.1 da.2 m0 m1
      generalize epr : x * m = pr at *
      go_wp2_with (at_builtin; refine append_num w.heap.size rfl _ _ 42 3 .i64 8 rfl Tryz.underlying42 HI.out (by omega) u5 ds _ rfl rfl ho hB hB.size (by have := hl.out; omega) ?_; intro v1 w2 ho2 hB2)
      go_roundw
      case rel => exact ⟨k + 1, _, _, by omega, by go_num, rfl, hs, ho2, hB2⟩
      case measure => simp [intOf]; omega
    · have hk1 : k = n1 := by omega
      subst hk1
      have hst := hp
      rw [← L1.out] at hst
      have hst := Lib.hid hst.stop
      go_wp2_with (at_builtin; refine append_num w.heap.size rfl _ _ 42 3 .i64 8 rfl Tryz.underlying42 HI.out (by omega) u5 ds _ rfl rfl ho hB hB.size (by have := hl.out; omega) ?_; intro v1 w2 ho2 hB2)
      have hll : (ds ++ [cy]).length = k + 1 := by rw [hst.out.1, L1.out]
      rw [hll] at ho2
      rcases ho2.2 with ⟨_, h0⟩ | ⟨g, cap, cur, rfl, hbg, hrest⟩
      · exact absurd h0 (by omega)
      · go_ret
        exact ⟨g, cap, rfl, hbg, _, ho2, hst.out.2.1, hst.out.2.2, hB2⟩


theorem rd_cells {w : World} {t : TypeId} {k : IntKind} {g off n : Nat} {ds : List Int} (h : RdI w t k (some ⟨g, off, none⟩) n ds) (j : Nat) (u : Value) (hu : (ints k ds)[j]? = some u) : w.cell? ((⟨g, off, none⟩ : Addr).add j) = some u := by
  have hj : j < ds.length := by
    have := (List.getElem?_eq_some_iff.1 hu).1
    rwa [ints_length] at this
  have hn : 0 < n := by rw [← h.1]; omega
  obtain ⟨g', off', e, _, hc⟩ := h.at_ hn
  simp only [Option.some.injEq, Addr.mk.injEq] at e
  obtain ⟨rfl, rfl, _⟩ := e
  have := hc j (by rw [← h.1]; exact hj)
  have ea : ((⟨g, off, none⟩ : Addr).add j) = ⟨g, off + j, none⟩ := by first | rfl | simp [Addr.add]
  rw [ea]
  have e2 : u = .int k (ds.getD j 0) := by
    simp only [ints, List.getElem?_map, List.getElem?_eq_getElem hj, Option.map_some, Option.some.injEq] at hu
    rw [← hu, List.getD_eq_getElem?_getD, List.getElem?_eq_getElem hj]; rfl
  rw [e2]
  exact this
theorem ints_one {k : IntKind} {ds : List Int} (u : Value) (hu : u ∈ ints k ds) : u.oneCell' = true := by
  simp only [ints, List.mem_map] at hu
  obtain ⟨x, _, rfl⟩ := hu
  rfl
theorem row_other {w w' : World} {B g n c : Nat} {e : TypeId} {xs : List Value} (h : w.ownsRow B e 1 (.slice (some ⟨g, 0, none⟩) n c) n xs) (hh : w'.heap[g]? = w.heap[g]?) : w'.ownsRow B e 1 (.slice (some ⟨g, 0, none⟩) n c) n xs := by
  refine ⟨h.1, ?_⟩
  rcases h.2 with ⟨h1, _⟩ | ⟨g', cap, cur, hv, hb, hg, hr⟩
  · simp at h1
  · simp only [Value.slice.injEq, Option.some.injEq, Addr.mk.injEq] at hv
    obtain ⟨⟨rfl, _, _⟩, _, rfl⟩ := hv
    exact .inr ⟨g, c, cur, rfl, hb, hh.trans hg, hr⟩
/-- A part of a slice. -/
theorem RdI.sub {w : World} {t : TypeId} {k : IntKind} {g off n : Nat} {ds : List Int} (h : RdI w t k (some ⟨g, off, none⟩) n ds) (j m : Nat) (hm : j + m ≤ n) : RdI w t k (some ⟨g, off + j, none⟩) m ((ds.drop j).take m) := by
  refine ⟨by have := h.1; simp; omega, by have := h.2.1; omega, fun hp => ?_⟩
  obtain ⟨g', off', cs, fr, h1, h2, h3⟩ := h.2.2 (by omega)
  simp only [Option.some.injEq, Addr.mk.injEq] at h1
  obtain ⟨rfl, rfl, _⟩ := h1
  refine ⟨g, off + j, cs, fr, rfl, h2, fun i hi => ?_⟩
  rw [Nat.add_assoc, h3 (j + i) (by omega)]
  simp [List.getD_eq_getElem?_getD, List.getElem?_take, List.getElem?_drop, hi]
theorem RdI.oneJ (W : World) (x : Int) (g : Nat) (hg : g = W.heap.size) : RdI (W.alloc (.cells #[.int .i64 x] 3)) 3 .i64 (some ⟨g, 0, none⟩) 1 [x] := by
  refine ⟨rfl, by omega, fun _ => ⟨g, 0, _, (0, 0), rfl, blk_at _ hg, fun j hj => ?_⟩⟩
  match j, hj with
  | 0, _ => rfl
theorem row_mono {w : World} {B B' : Nat} {e : TypeId} {v : Value} {n : Nat} {xs : List Value} (h : w.ownsRow B e 1 v n xs) (hB : B' ≤ B) : w.ownsRow B' e 1 v n xs :=
  ⟨h.1, by rcases h.2 with h1 | ⟨g, cap, cur, hv, hb, hr⟩; exact .inl h1; exact .inr ⟨g, cap, cur, hv, Nat.le_trans hB hb, hr⟩⟩
theorem own_block {w : World} {B g n c : Nat} {e : TypeId} {xs : List Value} (h : w.ownsRow B e 1 (.slice (some ⟨g, 0, none⟩) n c) n xs) : B ≤ g ∧ g < w.heap.size := h.lt g rfl
theorem own_cur {w : World} {B g n c : Nat} {e : TypeId} {xs : List Value} (h : w.ownsRow B e 1 (.slice (some ⟨g, 0, none⟩) n c) n xs) : ∃ cur, w.heap[g]? = some (.cells cur e (0, 0)) ∧ cur.size = c := by
  rcases h.2 with ⟨h1, _⟩ | ⟨g', cap, cur, hv, hb, hg, h1, h2, h3, h4⟩
  · simp at h1
  · simp only [Value.slice.injEq, Option.some.injEq, Addr.mk.injEq] at hv
    obtain ⟨⟨rfl, _, _⟩, _, rfl⟩ := hv
    exact ⟨cur, hg, by omega⟩
theorem row_copy {w : World} {B g n c k : Nat} {t : TypeId} {us ds : List Int} {cur : Array Value} (h : w.ownsRow B t 1 (.slice (some ⟨g, 0, none⟩) n c) n (ints .i64 us)) (hg : w.heap[g]? = some (.cells cur t (0, 0))) (hk : k + ds.length ≤ n) :
    (w.setRow g (cur.toList.take k ++ (ints .i64 ds ++ cur.toList.drop (k + (ints .i64 ds).length))).toArray).ownsRow B t 1 (.slice (some ⟨g, 0, none⟩) n c) n (ints .i64 (us.take k ++ (ds ++ us.drop (k + ds.length)))) := by
  have hl := own_len h
  rcases h.2 with ⟨h1, _⟩ | ⟨g', cap, cur', hv, hb, hg', h1, h2, h3, h4⟩
  · simp at h1
  · simp only [Value.slice.injEq, Option.some.injEq, Addr.mk.injEq] at hv
    obtain ⟨⟨rfl, _, _⟩, _, rfl⟩ := hv
    rw [hg] at hg'
    simp only [Option.some.injEq, Obj.cells.injEq] at hg'
    obtain ⟨rfl, _⟩ := hg'
    have hcl : cur.toList.length = c := by rw [Array.length_toList]; omega
    refine ⟨by simp [ints]; omega, .inr ⟨g, c, _, rfl, hb, setRow_heap w g _ _ t _ hg, h1, h2, ?_, ?_⟩⟩
    · simp [ints]; omega
    · rw [Nat.mul_one] at h4 ⊢
      have e1 : ints .i64 us = cur.toList.take n := h4.symm
      have e2 : ints .i64 (us.take k ++ (ds ++ us.drop (k + ds.length))) = (ints .i64 us).take k ++ (ints .i64 ds ++ (ints .i64 us).drop (k + ds.length)) := by simp [ints, List.map_take, List.map_drop]
      rw [e2, e1, ints_length]
      show (cur.toList.take k ++ (ints .i64 ds ++ cur.toList.drop (k + ds.length))).take n = _
      rw [List.take_append, List.take_append, List.take_take, List.length_take, ints_length, hcl, Nat.min_eq_left (show k ≤ c by omega), Nat.min_eq_right (show k ≤ n by omega), List.take_of_length_le (l := ints .i64 ds) (by rw [ints_length]; omega), List.take_take, Nat.min_eq_left (show k ≤ n by omega), List.drop_take]
      congr 3
      omega
theorem own_rd {w : World} {B g n c : Nat} {t : TypeId} {k : IntKind} {xs : List Int} (h : w.ownsRow B t 1 (.slice (some ⟨g, 0, none⟩) n c) n (ints k xs)) : RdI w t k (some ⟨g, 0, none⟩) n xs ∧ n ≤ c := by
  obtain ⟨A, c', e, hc, hr, _⟩ := RdI.own h
  simp only [Value.slice.injEq] at e
  obtain ⟨rfl, _, rfl⟩ := e
  exact ⟨hr, hc⟩
theorem copy_step {w : World} {B gu g3 o3 n cu k m c3 : Nat} {us ds : List Int} (hU : w.ownsRow B 3 1 (.slice (some ⟨gu, 0, none⟩) n cu) n (ints .i64 us)) (hr : RdI w 3 .i64 (some ⟨g3, o3, none⟩) m ds) (hk : k + m ≤ n) :
    ∃ W, (Builtin.copy_ #[42, 42] 3 #[.slice (some ⟨gu, k, none⟩) (n - k) (cu - k), .slice (some ⟨g3, o3, none⟩) m c3]).run Tryz.prog w = .ok (.int .i64 (m : Int)) W ∧ W.ownsRow B 3 1 (.slice (some ⟨gu, 0, none⟩) n cu) n (ints .i64 (us.take k ++ (ds ++ us.drop (k + m)))) ∧ (∀ B' w0, Below B' w0 w → B' ≤ gu → Below B' w0 W) ∧ ∀ g, g ≠ gu → W.heap[g]? = w.heap[g]? := by
  obtain ⟨cur, hcur, hcs⟩ := own_cur hU
  have hl := hr.1
  have hnc := (own_rd hU).2
  have h := run_copy_row (P := Tryz.prog) w 42 42 3 3 gu k (n - k) (cu - k) ⟨g3, o3, none⟩ m c3 cur 3 (ints .i64 ds) Tryz.underlying42 (by kernel_rfl) hcur (by rw [ints_length, hl]; exact (Nat.min_eq_left (by omega)).symm) (rd_cells hr) (by rw [ints_length, hl]; omega) ints_one
  have r := row_copy (k := k) (ds := ds) hU hcur (by omega)
  rw [List.append_assoc] at h
  rw [hl] at r
  refine ⟨_, ?_, r, fun B' w0 hb hg => below_setRow hb hg _, fun g hg => setRow_other _ _ _ _ hg⟩
  rw [h, ints_length, hl]
  rfl

set_option maxHeartbeats 8000000 in
set_option maxRecDepth 100000 in
theorem rdivided_calls (A1 : Option Addr) (n1 c1 : Nat) (a : List Int) (A2 : Option Addr) (n2 c2 : Nat) (b : List Int) (w : World)
    (g1 : RdI w 3 .i64 A1 n1 a) (g2 : RdI w 3 .i64 A2 n2 b) (k1 : Dig 1073741824 a) (k2 : Dig 1073741824 b) (t1 : Trimmed a) (t2 : Trimmed b) (b1 : n1 ≤ 1000000000) (b2 : n2 ≤ 1000000000) (hc1 : n1 ≤ c1) (hn2 : 0 < n2) :
    Calls Tryz.prog 144 #[.slice A1 n1 c1, .slice A2 n2 c2] w fun e w' => ∃ (Aq : Option Addr) (nq cq : Nat) (Ar : Option Addr) (nr cr : Nat), e = .returned (.tuple #[.slice Aq nq cq, .slice Ar nr cr]) ∧ nq ≤ cq ∧ nr ≤ cr ∧ ∃ qs rs, RdI w' 3 .i64 Aq nq qs ∧ RdI w' 3 .i64 Ar nr rs ∧ Dig 1073741824 qs ∧ Dig 1073741824 rs ∧ val 1073741824 qs = val 1073741824 a / val 1073741824 b ∧ val 1073741824 rs = val 1073741824 a % val 1073741824 b ∧ Below w.heap.size w w' := by
  have hbn : b ≠ [] := by intro e; have := g2.1; rw [e] at this; simp at this; omega
  have hb0 := Trimmed.le (by omega) k2 t2 hbn
  have hbp := pow_pos' (B := 1073741824) (by omega) (b.length - 1)
  have ha0 := val_nonneg (by omega) k1
  have L1 := Lib.hid g1.1
  have L2 := Lib.hid g2.1
  obtain ⟨gb, ob, rfl, lb, cb⟩ := g2.at_ (by omega)
  by_cases h1 : n2 = 1
  · subst h1
    have c0 : w.cell? ⟨gb, ob, none⟩ = some (.int .i64 (b.getD 0 0)) := cb 0 (by omega)
    have db := k2.at 0 (by omega)
    have hb1 : val 1073741824 b = b.getD 0 0 := by
      have := rval_drop_one 1073741824 b 0 (by rw [L2.out]; omega)
      rw [List.drop_zero, List.drop_eq_nil_iff.2 (by rw [L2.out]; omega)] at this
      simpa [val] using this
    rw [hb1] at hb0 ⊢
    clear cb hb1
    generalize b.getD 0 0 = m at *
    go_enter Tryz.func144, Tryz.ntmps144
    go_wp2_with fail
    refine (rshorter_calls A1 n1 c1 a m w g1 k1 (by omega) (by omega) (by omega)).mono ?_
    rintro e w1 ⟨A, n, c, rfl, ds, hc, hn, hr, hd, hv, hB⟩
    subst hn
    have HV := Lib.hid hv
    have hmod : 0 ≤ val 1073741824 a % m ∧ val 1073741824 a % m < m := ⟨Int.emod_nonneg _ (by omega), Int.emod_lt_of_pos _ (by omega)⟩
    generalize hmm : val 1073741824 a % m = mm at *
    have HMM := Lib.hid hmm
    clear hv hmm
    go_wp2
    go_ret2
    exact ⟨_, _, _, _, _, _, rfl, hc, Nat.le_refl _, ds, [mm], hr.kp ((Kp.refl _ _).alloc _), RdI.oneJ _ _ _ rfl, hd, Dig.one (by omega) (by omega), HV.out, by rw [HMM.out]; simp [val], bl_alloc hB _⟩
  · have q1 : ((n2 : Int) == 1) = false := by simp; omega
    by_cases hlt : val 1073741824 a < val 1073741824 b
    · have hs := sign_lt hlt
      have HS := Lib.hid hs
      have HQ := Lib.hid (And.intro (Int.ediv_eq_zero_of_lt ha0 hlt) (Int.emod_eq_of_lt ha0 hlt))
      clear hs
      go_enter Tryz.func144, Tryz.ntmps144
      go_wp2_with fail
      refine (rcompare_calls A1 n1 c1 a _ n2 c2 b w g1 g2 k1 k2 t1 t2).mono ?_
      rintro e w1 ⟨rfl, nd, rfl⟩
      rw [HS.out]
      go_wp2
      go_ret2
      exact ⟨_, _, _, _, _, _, rfl, Nat.le_refl _, hc1, [], a, RdI.nil _ _ _ _, g1.kp ((Kp.refl _ _).drewN _), Dig.nil, k1, by rw [HQ.out.1]; rfl, HQ.out.2.symm, bl_drewN (Below.refl _ _) _⟩
    · have hs : ¬ (val 1073741824 a - val 1073741824 b).sign < 0 := by rw [Int.sign_neg_iff]; omega
      have hlt' := Lib.hid hlt
      clear hlt
      have cl := cb (n2 - 1) (by omega)
      have dl := k2.at (n2 - 1) (by omega)
      have hl0 : 0 < b.getD (n2 - 1) 0 := by
        rcases t2 with h | h
        · exact absurd h hbn
        · rw [L2.out] at h; exact h
      have hn12 : n2 ≤ n1 := by
        rcases Nat.lt_or_ge n1 n2 with h | h
        · have := val_lt_len (B := 1073741824) (by omega) k1 k2 t2 (by rw [L1.out, L2.out]; exact h)
          have := hlt'.out
          omega
        · exact h
      have HBL := Lib.hid (Eq.refl (b.getD (n2 - 1) 0))
      generalize hbl : b.getD (n2 - 1) 0 = bl at *
      replace HBL := Lib.hid hbl
      clear hbl cb
      have ef := Int.tdiv_eq_ediv_of_nonneg (b := bl + 1) (show (0 : Int) ≤ 1073741824 by omega)
      have hf1 : (bl + 1) * (1073741824 / (bl + 1)) ≤ 1073741824 := Int.mul_ediv_self_le (by omega)
      have hf2 : 1 ≤ 1073741824 / (bl + 1) := (Int.le_ediv_iff_mul_le (by omega)).2 (by omega)
      have hf3 : 1073741824 / (bl + 1) < 1073741824 := Int.ediv_lt_of_lt_mul (by omega) (by omega)
      have nz : ((bl + 1) == 0) = false := by simp; omega
      generalize hff : 1073741824 / (bl + 1) = f at *
      clear hff
      have HF1 := Lib.hid hf1
      clear hf1
      go_enter Tryz.func144, Tryz.ntmps144
      go_wp2_with fail
      refine (rcompare_calls A1 n1 c1 a _ n2 c2 b w g1 g2 k1 k2 t1 t2).mono ?_
      rintro e w1 ⟨rfl, nd, rfl⟩
      generalize (val 1073741824 a - val 1073741824 b).sign = sg at *
      replace g1 := g1.kp ((Kp.refl _ w).drewN nd)
      replace g2 := g2.kp ((Kp.refl _ w).drewN nd)
      have cl' : (w.drewN nd).cell? ⟨gb, ob + (n2 - 1), none⟩ = some (.int .i64 bl) := cl
      have B0 := bl_drewN (Below.refl w.heap.size w) nd
      have lb' : gb < (w.drewN nd).heap.size := lb
      generalize w.drewN nd = W1 at *
      go_wp2_with fail
      have hI := Lib.hid info_int
      go_region_with (first | (go_at_call_of 154 (Value.slice A1 n1 c1); refine (rscaled_own A1 n1 c1 a f _ (g1.kp (by first | exact Kp.refl _ _ | exact (Kp.refl _ _).drew)) k1 (by omega) (by omega) (by omega)).mono ?_; rintro e w2 ⟨gu, cu, rfl, hgu, us, hU, du, vu, hB1⟩; have B1 := bl_then (by first | exact B0 | exact bl_drew B0) hB1; have g2_1 := (by first | exact g2.below hB1 | exact (g2.kp (Kp.refl _ _).drew).below hB1 : RdI w2 3 .i64 (some ⟨gb, ob, none⟩) n2 b)) | (have _hh := g2_1; go_at_call 154; refine (rscaled_own _ n2 c2 b f _ g2_1 k2 (by omega) (by omega) (by omega)).mono ?_; rintro e w3 ⟨gv, cv, rfl, hgv, vs, hV, dv, vv, hB2⟩; have hU2 := own_alloc_below hU hB2; have B2 := bl_then B1 hB2; have hcv := (own_rd hV).2; have hcv' : (n2 : Int) ≤ (cv : Int) := (by omega)))
      have hgu' := own_block hU
      have hgv' := own_block hV
      have SET := dv_setup (B := 1073741824) (by omega) k1 k2 L1.out L2.out (by omega) hn12 HBL.out hl0 hf2 HF1.out du dv (own_len hU) (own_len hV) vu vv
      replace hU := row_mono (B' := w.heap.size) hU2 (by have := B0.size; simp only [World.size_drew]; exact this)
      replace hV := row_mono (B' := w.heap.size) hV (by have := B1.size; exact this)
      have hsz := B2.size
      clear hU2 hB1 hB2 g2_1 _hh hgu hgv du dv vu vv B0 B1 g1 g2 cl cl' lb lb'
      obtain ⟨dv, lv, vv, hVlt, hvt, hV0, hbpos, hDV⟩ := SET
      have LV := Lib.hid lv
      have HVV := Lib.hid vv
      have HVLT := Lib.hid hVlt
      clear lv vv hVlt
      generalize hfa : f * val 1073741824 a = U at *
      generalize hfb : f * val 1073741824 b = V at *
      have HFA := Lib.hid hfa
      have HFB := Lib.hid hfb
      clear hfa hfb
      go_wp2_with (first | (at_make; refine make_num w3.heap.size rfl _ _ 42 3 .i64 8 rfl Tryz.underlying42 hI.out _ _ _ _ (n1 + 1 - n2) rfl rfl (by omega) (by omega) (by omega) (by omega) (Below.refl w3.heap.size w3) (Nat.le_refl _) ?_; intro w4 hQ hB3) | go_in)
      have hgq := own_block hQ
      replace hU := own_alloc_below hU hB3
      replace hV := own_alloc_below hV hB3
      replace hQ := row_mono (B' := w.heap.size) hQ hsz
      replace B2 := bl_then B2 hB3
      have e0 : (n1 : Int) + 1 - (n2 : Int) - 1 = ((n1 + 1 - n2 : Nat) : Int) - 1 := by omega
      clear hB3
      generalize hM : n1 + 1 - n2 = M at *
      have HM := Lib.hid hM
      have E0H := Lib.hid e0
      have hM1 : M + n2 ≤ n1 + 1 := by omega
      have hM2 : n1 + 1 ≤ M + n2 := by omega
      clear e0 hM
      go_loopw [12] (fun i wr => ∃ (k : Nat) (us qs : List Int), k ≤ M ∧ i = .int .i64 ((k : Int) - 1) ∧ DV 1073741824 U V n2 k us qs ∧ qs.length = M ∧ wr.ownsRow w.heap.size 3 1 (.slice (some ⟨gu, 0, none⟩) (n1 + 1) cu) (n1 + 1) (ints .i64 us) ∧ wr.ownsRow w.heap.size 3 1 (.slice (some ⟨gv, 0, none⟩) (n2 + 1) cv) (n2 + 1) (ints .i64 vs) ∧ wr.ownsRow w.heap.size 3 1 (.slice (some ⟨w3.heap.size, 0, none⟩) M M) M (ints .i64 qs) ∧ Below w.heap.size w wr) (fun i _ => (intOf i + 1).toNat)
      case atStart => exact ⟨M, us, List.replicate M 0, Nat.le_refl _, by rw [E0H.out], hDV, by simp, hU, hV, hQ, B2⟩
      case round =>
        clear hDV hU hV hQ B2 us
        obtain ⟨k, us, qs, hk, rfl, hD, hql, hU, hV, hQ, hB⟩ := hrel
        by_cases hk0 : k = 0
        · subst hk0
          rw [← HFA.out, ← HFB.out] at hD
          have STOP := hD.stop (by omega) (by omega) (by omega) hbpos (by rw [HFB.out]; exact HVLT.out)
          have dq := hD.dq
          have du := hD.du
          have HS := Lib.hid STOP
          have rU := (own_rd hU).1.take (m := n2) (by omega)
          have hcu := (own_rd hU).2
          obtain ⟨rQ, hcq⟩ := own_rd hQ
          have hn2c : (n2 : Int) ≤ (cu : Int) := by omega
          clear hD STOP
          go_wp2_with fail
          refine (rshorter_calls _ n2 cu (us.take n2) f _ rU (du.take n2) (by omega) (by omega) hf3).mono ?_
          rintro e w5 ⟨A, n, c, rfl, ds, hc, hn, hr, hd, hv, hB5⟩
          have HVR := Lib.hid (hv.trans HS.out.1)
          clear hv
          subst hn
          go_wp2
          go_ret2
          exact ⟨_, _, _, _, _, _, rfl, Nat.le_refl _, hc, qs, ds, rQ.below hB5, hr, dq, hd, HS.out.2, HVR.out, bl_then hB hB5⟩
        · obtain ⟨k, rfl⟩ : ∃ j, k = j + 1 := ⟨k - 1, by omega⟩
          have e1 : ((k + 1 : Nat) : Int) - 1 = (k : Int) := by omega
          rw [e1]
          clear e1 hk0
          obtain ⟨ct, ft⟩ := own_at hU (k + n2) (by omega)
          obtain ⟨cs, fs⟩ := own_at hU (k + n2 - 1) (by omega)
          obtain ⟨cw, fw⟩ := own_at hV (n2 - 1) (by omega)
          have P := hD.part (by omega) (by omega) HVLT.out
          have dt := hD.du.at (k + n2) (by omega)
          have ds := hD.du.at (k + n2 - 1) (by omega)
          have dw := dv.at (n2 - 1) (by omega)
          have hvg : (vs.take n2).getD (n2 - 1) 0 = vs.getD (n2 - 1) 0 := getD_take _ _ _ (by omega)
          have hpt : ((us.drop k).take (n2 + 1)).getD n2 0 = us.getD (k + n2) 0 := by simp [List.getD_eq_getElem?_getD, List.getElem?_take, List.getElem?_drop]
          have hps : ((us.drop k).take (n2 + 1)).getD (n2 - 1) 0 = us.getD (k + n2 - 1) 0 := by
            simp only [List.getD_eq_getElem?_getD, List.getElem?_take, List.getElem?_drop]
            rw [if_pos (by omega), show k + (n2 - 1) = k + n2 - 1 by omega]
          rw [hvg] at hvt dw
          have EST := DV.est (by omega) (by omega) P.2.2.2.2 P.2.1 P.1 dv LV.out HVV.out hV0 P.2.2.2.1 hpt hps hvg hvt
          have HD := Lib.hid hD
          have HP := Lib.hid P
          have HE := Lib.hid EST
          clear P EST hD hpt hps hvg
          generalize us.getD (k + n2) 0 = t at *
          generalize us.getD (k + n2 - 1) 0 = s at *
          generalize vs.getD (n2 - 1) 0 = vt at *
          have nz : (vt == 0) = false := by simp; omega
          have x0 : 0 ≤ t * 1073741824 + s := by omega
          have y0 : 0 ≤ (t * 1073741824 + s) / vt := Int.ediv_nonneg x0 (by omega)
          have y1 : (t * 1073741824 + s) / vt ≤ t * 1073741824 + s := Int.ediv_le_self _ x0
          have EB : val 1073741824 (us.drop k) / V ≤ (if 1073741823 < (t * 1073741824 + s) / vt then 1073741823 else (t * 1073741824 + s) / vt) ∧ (if 1073741823 < (t * 1073741824 + s) / vt then 1073741823 else (t * 1073741824 + s) / vt) ≤ 1073741823 := by
            have := HE.out
            split <;> omega
          have EB' := Lib.hid EB
          clear EB HE
          go_wp2_with fail
          go_region
          have EB := EB'.out
          clear EB' ct ft cs fs cw fw dt ds dw hvt nz x0 y0 y1
          generalize (if 1073741823 < (t * 1073741824 + s) / vt then 1073741823 else (t * 1073741824 + s) / vt) = E0 at *
          have hq0 : 0 ≤ val 1073741824 (us.drop k) / V := Int.ediv_nonneg HP.out.2.2.1 (by omega)
          generalize hW : val 1073741824 (us.drop k) = W at *
          have HW := Lib.hid hW
          clear hW
          generalize hqd : W / V = Q0 at *
          have HQD := Lib.hid hqd
          clear hqd
          have rP := (own_rd hU).1.sub k (n2 + 1) (by omega)
          rw [Nat.zero_add] at rP
          go_wp2_with fail
          go_loopw [13] (fun ev wr => ∃ E : Int, ev = .int .i64 E ∧ Q0 ≤ E ∧ E ≤ 1073741823 ∧ wr.ownsRow w.heap.size 3 1 (.slice (some ⟨gu, 0, none⟩) (n1 + 1) cu) (n1 + 1) (ints .i64 us) ∧ wr.ownsRow w.heap.size 3 1 (.slice (some ⟨gv, 0, none⟩) (n2 + 1) cv) (n2 + 1) (ints .i64 vs) ∧ wr.ownsRow w.heap.size 3 1 (.slice (some ⟨w3.heap.size, 0, none⟩) M M) M (ints .i64 qs) ∧ Below w.heap.size w wr) (fun ev _ => (intOf ev).toNat)
          case atStart => exact ⟨E0, rfl, EB.1, EB.2, hU, hV, hQ, bl_drew hB⟩
          case round =>
            clear hU hV hQ hB EB rP
            obtain ⟨E, rfl, hE0, hE1, hU, hV, hQ, hB⟩ := hrel
            have rV := (own_rd hV).1.take (m := n2) (by omega)
            have rP := (own_rd hU).1.sub k (n2 + 1) (by omega)
            rw [Nat.zero_add] at rP
            have hcu := (own_rd hU).2
            have hgw := own_block hU
            go_wp2_with fail
            refine (rscaled_calls _ n2 cv (vs.take n2) E _ rV dv (by omega) (by omega) (by omega)).mono ?_
            rintro e w5 ⟨A, np, c, rfl, ds, hc, hn, hr, hd, hv, hB5⟩
            have HNP := Lib.hid hn
            clear hn
            replace hU := own_alloc_below hU hB5
            replace hV := own_alloc_below hV hB5
            replace hQ := own_alloc_below hQ hB5
            replace rP := rP.below hB5
            replace hB := bl_then hB hB5
            have hgw5 := hB5.size
            rw [HVV.out] at hv
            have HPV := Lib.hid hv
            clear hv hB5 rV
            obtain ⟨i0, hi, hz0, hz1, hz2⟩ := info_parts hI.out
            have dP := HP.out.2.2.2.2
            have lP := HP.out.2.1
            generalize hpart : (us.drop k).take (n2 + 1) = part at *
            have HPART := Lib.hid hpart
            clear hpart
            have hb3 : k + n2 + 1 ≤ n1 + 1 := by omega
            have hb1 : (k : Int) ≤ (k : Int) + (n2 : Int) + 1 := by omega
            have hb2 : (k : Int) + (n2 : Int) + 1 ≤ (cu : Int) := by omega
            have hb12 : ((k : Int) + (n2 : Int) + 1).toNat = k + n2 + 1 := by omega
            have hb13 : cu ≠ k := by omega
            have hb10 : IntKind.i64.wrap ((k : Int) + (n2 : Int) + 1) = (k : Int) + (n2 : Int) + 1 := by rw [IntKind.wrap_i64]; omega
            have hb11 : IntKind.i64.wrap ((k : Int) + (n2 : Int)) = (k : Int) + (n2 : Int) := by rw [IntKind.wrap_i64]; omega
            go_wp2_with fail
            go_region_held3 (fun _ => True) (trivial) (first | (have _hh := tW; go_at_call 129; refine (rcompare_calls A mp c (ds.take mp) A2 mw c2' (part.take mw) _ ((hr.below hB6).take hmp) rW (hd.take mp) (dP.take mw) tD tW).mono ?_; rintro e w8 ⟨rfl, nd, rfl⟩) | (go_at_call_of 155 (Value.slice A np c); refine (rtrim_calls A np c ds _ (by repeat (first | with_reducible exact hr | with_reducible refine RdI.kp ?_ ((Kp.refl _ _).alloc _) | with_reducible refine RdI.kp ?_ (Kp.refl _ _).drew | with_reducible refine RdI.below ?_ hB6)) hd hc).mono ?_; rintro e w7 ⟨mp, rfl, hmp, rD, tD, vD, rfl⟩) | (have _hh := r2; go_at_call 155; refine (rtrim_calls A2 (n2 + 1) c2' part _ r2 dP hc2).mono ?_; rintro e w7 ⟨mw, rfl, hmw, rW, tW, vW, rfl⟩) | (refine step_append_grows rfl (.tmp 95) (.tmp 102) 42 rfl 3 i0 (.int .i64 0) 1 8 Tryz.underlying42 hi hz0 hz1 hz2 rfl (by decide) _ 0 0 [] rfl (fun h => nomatch h) rfl (by simp) ⟨gu, k, none⟩ (k + n2 + 1 - k) _ (ints .i64 part) rfl (by rw [ints_length, lP, Nat.mul_one]; omega) (rd_cells (by repeat (first | with_reducible exact rP | with_reducible refine RdI.kp ?_ ((Kp.refl _ _).alloc _) | with_reducible refine RdI.kp ?_ (Kp.refl _ _).drew | with_reducible refine RdI.below ?_ hB6) : RdI _ 3 .i64 (some ⟨gu, k, none⟩) (n2 + 1) part)) ints_one (by omega) (by simp only [maxLen]; omega) (by omega) ?_; intro v' w6 hown hgrow; have hBg := (Below.refl _ _).grown hgrow (Nat.le_refl _) (by simp); have hB6 : Below w5.heap.size w5 w6 := bl_then (by repeat (first | with_reducible exact Below.refl _ _ | with_reducible refine bl_alloc ?_ _ | with_reducible refine bl_drew ?_)) hBg; rw [List.nil_append, show 0 + (k + n2 + 1 - k) = n2 + 1 by omega] at hown; obtain ⟨A2, c2', rfl, hc2, r2, _⟩ := RdI.own (k := .i64) (xs := part) hown) | fail)
            all_goals
              replace hU := own_alloc_below hU hB6
              replace hV := own_alloc_below hV hB6
              replace hQ := own_alloc_below hQ hB6
              replace hB := bl_then hB hB6
              replace hr := hr.below hB6
              have hg6 := own_block hU
              have VD := HPV
              have VP := Lib.hid HP.out.1
              have LDS := Lib.hid (hr.1.trans HNP.out)
              have rP6 := r2
              clear vD vW hBg hB6 rP tD tW rD rW hown
              have hUd : (w7.drewN nd).ownsRow w.heap.size 3 1 (.slice (some ⟨gu, 0, none⟩) (n1 + 1) cu) (n1 + 1) (ints .i64 us) := hU
              have hVd : (w7.drewN nd).ownsRow w.heap.size 3 1 (.slice (some ⟨gv, 0, none⟩) (n2 + 1) cv) (n2 + 1) (ints .i64 vs) := hV
              have hQd : (w7.drewN nd).ownsRow w.heap.size 3 1 (.slice (some ⟨w3.heap.size, 0, none⟩) M M) M (ints .i64 qs) := hQ
              have hBd := bl_drewN hB nd
              have hrd : RdI (w7.drewN nd) 3 .i64 A np ds := hr
              clear hU hV hQ hB hr r2 rP6
              by_cases hle : E * V ≤ W
              · have hsg : val 1073741824 ds - val 1073741824 part ≤ 0 := by
                  rw [VD.out, VP.out]; omega
                have hsg2 : (val 1073741824 ds - val 1073741824 part).sign ≤ 0 := by
                  rcases Int.lt_or_le (val 1073741824 ds - val 1073741824 part) 0 with h | h
                  · rw [Int.sign_eq_neg_one_of_neg h]; omega
                  · rw [show val 1073741824 ds - val 1073741824 part = 0 by omega]; simp
                have hEQ : E = Q0 := by
                  have : E ≤ W / V := (Int.le_ediv_iff_mul_le hV0).2 hle
                  rw [HQD.out] at this
                  omega
                subst hEQ
                have HLE := Lib.hid hle
                have hkk : k + n2 + 1 - k = n2 + 1 := by omega
                clear hle
                generalize hdif : val 1073741824 ds - val 1073741824 part = dif at *
                clear hdif
                have rP7 := (own_rd hUd).1.sub k (n2 + 1) (by omega)
                rw [Nat.zero_add, HPART.out] at rP7
                generalize w7.drewN nd = W6 at *
                go_wp2_with fail
                refine (rdifference_calls (some ⟨gu, k, none⟩) (n2 + 1) _ part A np c ds _ rP7 hrd dP hd (by omega) (fun i hi => getD_beyond ds i (by have := LDS.out; omega)) (by rw [VD.out, VP.out]; exact HLE.out)).mono ?_
                rintro e w8 ⟨A3, n3, c3, d3, rfl, hc3, hn3, hr3, hd3, hv3, hB8⟩
                subst hn3
                have HV3 := Lib.hid hv3
                clear hv3
                replace hUd := own_alloc_below hUd hB8
                replace hVd := own_alloc_below hVd hB8
                replace hQd := own_alloc_below hQd hB8
                replace hBd := bl_then hBd hB8
                have sz8 := hB8.size
                clear hB8 rP7 hrd
                obtain ⟨g3, o3, rfl, l3, c3'⟩ := hr3.at_ (by omega)
                have L3 := Lib.hid hr3.1
                obtain ⟨cur, hcur, hcs⟩ := own_cur hUd
                have HCS := Lib.hid hcs
                clear c3' hcs
                have hb14 : (k : Int) ≤ (n1 : Int) + 1 := by omega
                obtain ⟨W9, hcp, hU9, hB9, hoth⟩ := copy_step (c3 := c3) hUd hr3 (show k + (n2 + 1) ≤ n1 + 1 by omega)
                have hV9 := row_other hVd (hoth gv (by omega))
                have hQ9 := row_other hQd (hoth w3.heap.size (by omega))
                replace hB9 := hB9 _ _ hBd (by omega)
                have STEP := Lib.hid (DV.step (by omega) HD.out (by omega) hV0 HVLT.out (by rw [HW.out, HQD.out]) hd3 L3.out (by rw [HV3.out, HW.out, VP.out, VD.out]) : DV 1073741824 U V n2 k _ (qs.set k E))
                clear hUd hVd hQd hBd hoth hr3 hcur HCS hd3 HD HP hd dP
                obtain ⟨cq, fq⟩ := own_at hQ9 k (by omega)
                have hQs := own_set hQ9 hB9 (Nat.le_refl _) k E
                have gq9 := own_block hQ9
                have hUs := row_other (w' := W9.setCell ⟨w3.heap.size, k, none⟩ (.int .i64 E)) hU9 (heap_setCell_other _ _ _ _ (show gu ≠ w3.heap.size by omega))
                have hVs := row_other (w' := W9.setCell ⟨w3.heap.size, k, none⟩ (.int .i64 E)) hV9 (heap_setCell_other _ _ _ _ (show gv ≠ w3.heap.size by omega))
                clear hU9 hV9 hQ9 hB9
                go_wp2
                go_roundw
                case rel => exact ⟨k, _, qs.set k E, by omega, rfl, STEP.out, by rw [List.length_set]; exact hql, hUs, hVs, hQs.1, hQs.2⟩
                case measure => simp [intOf] <;> omega
              · have hsg : 0 < val 1073741824 ds - val 1073741824 part := by
                  rw [VD.out, VP.out]; omega
                have hsg2 : 0 < (val 1073741824 ds - val 1073741824 part).sign := by rw [Int.sign_eq_one_of_pos hsg]; omega
                have hgt : Q0 ≤ E - 1 := by
                  rcases Int.lt_or_le Q0 E with h | h
                  · omega
                  · exfalso
                    have : E * V ≤ W := (Int.le_ediv_iff_mul_le hV0).1 (by rw [HQD.out]; exact h)
                    exact hle this
                clear hle
                generalize hdif : val 1073741824 ds - val 1073741824 part = dif at *
                clear hdif
                generalize w7.drewN nd = W6 at *
                go_wp2_with fail
                go_roundw
                case rel => first | exact ⟨E - 1, rfl, hgt, by omega, hUd, hVd, hQd, hBd⟩ | ((repeat apply Exists.intro); refine ⟨?_, rfl⟩; exact ⟨E - 1, rfl, hgt, by omega, hUd, hVd, hQd, hBd⟩)
                case measure => simp [intOf]; omega
end Go.Proofs.YtloplmmnmehkmaaGreat
