/- reference: scaled, shorter. -/
import Derived.Test.YtloplmmnmehkmaaGreatRef1
set_option linter.unusedVariables false
set_option linter.unusedSimpArgs false
namespace Go.Proofs.YtloplmmnmehkmaaGreat
open Go.RowKit

theorem rmul_bounds {a b : Int} (h0 : 0 ≤ a) (h1 : a < 1073741824) (h2 : 0 ≤ b) (h3 : b < 1073741824) : 0 ≤ a * b ∧ a * b ≤ 1152921502459363329 := by
  refine ⟨Int.mul_nonneg h0 h2, ?_⟩
  have := Int.le_trans (Int.mul_le_mul_of_nonneg_right (show a ≤ 1073741823 by omega) h2) (Int.mul_le_mul_of_nonneg_left (show b ≤ 1073741823 by omega) (show (0 : Int) ≤ 1073741823 by omega))
  omega
/-- The state of scaled behind k digits. -/
structure RSc (a : List Int) (m : Int) (k : Nat) (ds : List Int) (cy : Int) : Prop where
  c0 : 0 ≤ cy
  c1 : cy < 1073741824
  len : ds.length = k
  dig : Dig 1073741824 ds
  eq : val 1073741824 ds + 1073741824 ^ k * cy = m * val 1073741824 (a.take k)
theorem RSc.start (a : List Int) (m : Int) : RSc a m 0 [] 0 := ⟨by omega, by omega, rfl, Dig.nil, by simp [val]⟩
theorem RSc.step {a : List Int} {m : Int} {k : Nat} {ds : List Int} {cy : Int} (h : RSc a m k ds cy) (ha : Dig 1073741824 a) (m0 : 0 ≤ m) (m1 : m < 1073741824) :
    RSc a m (k + 1) (ds ++ [(cy + a.getD k 0 * m) % 1073741824]) ((cy + a.getD k 0 * m) / 1073741824) := by
  have h1 := ha.at k (by omega)
  have c0 := h.c0
  have c1 := h.c1
  have hb := rmul_bounds h1.1 h1.2 m0 m1
  have ht := val_take_any 1073741824 a k
  refine ⟨by omega, by omega, by simp [h.len], h.dig.append (Dig.one (by omega) (by omega)), ?_⟩
  rw [val_append, ht, h.len, Int.pow_succ]
  have e := h.eq
  have em := Int.emod_add_mul_ediv (cy + a.getD k 0 * m) 1073741824
  generalize (cy + a.getD k 0 * m) / 1073741824 = q at *
  generalize (cy + a.getD k 0 * m) % 1073741824 = r at *
  generalize (1073741824 : Int) ^ k = p at *
  simp only [val]
  grind
theorem RSc.stop {a : List Int} {m : Int} {ds : List Int} {cy : Int} (h : RSc a m a.length ds cy) :
    (ds ++ [cy]).length = a.length + 1 ∧ Dig 1073741824 (ds ++ [cy]) ∧ val 1073741824 (ds ++ [cy]) = m * val 1073741824 a := by
  have e := h.eq
  rw [List.take_of_length_le (Nat.le_refl _)] at e
  refine ⟨by simp [h.len], h.dig.append (Dig.one h.c0 h.c1), ?_⟩
  rw [val_append, h.len]
  simp only [val, Int.mul_zero, Int.add_zero]
  exact e

set_option maxHeartbeats 800000 in
set_option maxRecDepth 100000 in
theorem rscaled_calls (A1 : Option Addr) (n1 c1 : Nat) (a : List Int) (m : Int) (w : World) (g1 : RdI w 3 .i64 A1 n1 a) (k1 : Dig 1073741824 a) (b1 : n1 ≤ 1000000001) (m0 : 0 ≤ m) (m1 : m < 1073741824) :
    Calls Tryz.prog 154 #[.slice A1 n1 c1, .int .i64 m] w fun e w' => ∃ (A : Option Addr) (n c : Nat), e = .returned (.slice A n c) ∧ ∃ ds, n ≤ c ∧ n = n1 + 1 ∧ RdI w' 3 .i64 A n ds ∧ Dig 1073741824 ds ∧ val 1073741824 ds = m * val 1073741824 a ∧ Below w.heap.size w w' := by
  have I := info_int
  have HI := Lib.hid I
  clear I
  have HK := Lib.hid k1
  have L1 := Lib.hid g1.1
  clear k1
  have B0 := Below.refl w.heap.size w
  go_enter Tryz.func154, Tryz.ntmps154
  go_wp2
  go_loopw [5, 6, 11] (fun v c i wr => ∃ (k : Nat) (ds : List Int) (cy : Int), k ≤ n1 ∧ i = .int .i64 k ∧ c = .int .i64 cy ∧ RSc a m k ds cy ∧ wr.ownsRow w.heap.size 3 1 v ds.length (ints .i64 ds) ∧ Below w.heap.size w wr) (fun _ _ i _ => n1 - (intOf i).toNat)
  case atStart => exact ⟨0, [], 0, Nat.zero_le _, rfl, rfl, RSc.start _ _, ⟨rfl, .inl ⟨rfl, rfl⟩⟩, B0⟩
  case round =>
    clear B0
    obtain ⟨k, ds, cy, hk, rfl, rfl, hp, ho, hB⟩ := hrel
    have hc0 := hp.c0
    have hc1 := hp.c1
    have hl := Lib.hid hp.len
    by_cases hlt : k < n1
    · obtain ⟨ga, oa, rfl, la, ca⟩ := g1.at_ (by omega)
      have ca1 : wr.cell? ⟨ga, oa + k, none⟩ = some (.int .i64 (a.getD k 0)) := (hB.cell (p := ⟨ga, oa + k, none⟩) la).trans (ca k hlt)
      clear ca
      have hs := hp.step HK.out m0 m1
      have da := HK.out.at k (by omega)
      generalize a.getD k 0 = x at *
      have pb := rmul_bounds da.1 da.2 m0 m1
      generalize epr : x * m = pr at *
      go_wp2_with (at_builtin; refine append_num w.heap.size rfl _ _ 42 3 .i64 8 rfl Tryz.underlying42 HI.out (by omega) u5 ds _ rfl rfl ho hB hB.size (by have := hl.out; omega) ?_; intro v1 w2 ho2 hB2)
      go_roundw
      case rel => exact ⟨k + 1, _, _, by omega, by go_num, rfl, hs, ho2, hB2⟩
      case measure => simp [intOf]; omega
    · have hk1 : k = n1 := by omega
      subst hk1
      have hst := hp
      rw [← L1.out] at hst
      have hst := Lib.hid hst.stop
      go_wp2_with (at_builtin; refine append_num w.heap.size rfl _ _ 42 3 .i64 8 rfl Tryz.underlying42 HI.out (by omega) u5 ds _ rfl rfl ho hB hB.size (by have := hl.out; omega) ?_; intro v1 w2 ho2 hB2)
      obtain ⟨A, c, rfl, hc, hr, hn⟩ := RdI.own ho2
      clear hn
      go_ret
      exact ⟨A, _, c, rfl, _, hc, by rw [hst.out.1, L1.out], hr, hst.out.2.1, hst.out.2.2, hB2⟩

/-- The state of shorter: the digits from k on are done. -/
structure RSh (a : List Int) (m : Int) (k : Nat) (q : List Int) (r : Int) : Prop where
  r0 : 0 ≤ r
  r1 : r < m
  len : q.length = a.length
  dig : Dig 1073741824 q
  zero : ∀ i, i < k → q.getD i 0 = 0
  eq : val 1073741824 a - val 1073741824 (a.take k) = m * val 1073741824 q + 1073741824 ^ k * r
theorem RSh.start (a : List Int) (m : Int) (hm : 0 < m) : RSh a m a.length (List.replicate a.length 0) 0 :=
  ⟨by omega, hm, by simp, Dig.zeros (by omega) _, fun i _ => getD_replicate _ _, by rw [List.take_of_length_le (Nat.le_refl _), val_replicate]; simp⟩
theorem RSh.step {a : List Int} {m : Int} {k : Nat} {q : List Int} {r : Int} (h : RSh a m (k + 1) q r) (ha : Dig 1073741824 a) (m0 : 0 < m) (m1 : m < 1073741824) (hk : k < a.length) :
    RSh a m k (q.set k ((r * 1073741824 + a.getD k 0) / m)) ((r * 1073741824 + a.getD k 0) % m) := by
  have h1 := ha.at k (by omega)
  have r0 := h.r0
  have r1 := h.r1
  have q0 : 0 ≤ (r * 1073741824 + a.getD k 0) / m := Int.ediv_nonneg (by omega) (by omega)
  have q1 : (r * 1073741824 + a.getD k 0) / m < 1073741824 := Int.ediv_lt_of_lt_mul (by omega) (by omega)
  have s0 : 0 ≤ (r * 1073741824 + a.getD k 0) % m := Int.emod_nonneg _ (by omega)
  have s1 : (r * 1073741824 + a.getD k 0) % m < m := Int.emod_lt_of_pos _ (by omega)
  have hz := h.zero k (by omega)
  have hv := val_set 1073741824 q k ((r * 1073741824 + a.getD k 0) / m) (by rw [h.len]; exact hk)
  refine ⟨s0, s1, by simp [h.len], h.dig.set _ q0 q1, fun i hi => by rw [getD_set_ne _ _ _ _ (by omega)]; exact h.zero i (by omega), ?_⟩
  rw [hv, hz]
  have e := h.eq
  rw [val_take_any, Int.pow_succ] at e
  have em := Int.emod_add_mul_ediv (r * 1073741824 + a.getD k 0) m
  generalize (r * 1073741824 + a.getD k 0) / m = x at *
  generalize (r * 1073741824 + a.getD k 0) % m = y at *
  generalize (1073741824 : Int) ^ k = p at *
  grind
theorem RSh.stop {a : List Int} {m : Int} {q : List Int} {r : Int} (h : RSh a m 0 q r) : val 1073741824 q = val 1073741824 a / m ∧ r = val 1073741824 a % m := by
  have e := h.eq
  have r0 := h.r0
  have r1 := h.r1
  simp only [List.take_zero, val, Int.sub_zero, Int.pow_zero, Int.one_mul] at e
  have := (Int.ediv_emod_unique (a := val 1073741824 a) (b := m) (r := r) (q := val 1073741824 q) (by omega)).2 ⟨by omega, r0, r1⟩
  exact ⟨this.1.symm, this.2.symm⟩

set_option maxHeartbeats 800000 in
set_option maxRecDepth 100000 in
theorem rshorter_calls (A1 : Option Addr) (n1 c1 : Nat) (a : List Int) (m : Int) (w : World) (g1 : RdI w 3 .i64 A1 n1 a) (k1 : Dig 1073741824 a) (b1 : n1 ≤ 1000000001) (m0 : 0 < m) (m1 : m < 1073741824) :
    Calls Tryz.prog 153 #[.slice A1 n1 c1, .int .i64 m] w fun e w' => ∃ (A : Option Addr) (n c : Nat), e = .returned (.tuple #[.slice A n c, .int .i64 (val 1073741824 a % m)]) ∧ ∃ ds, n ≤ c ∧ n = n1 ∧ RdI w' 3 .i64 A n ds ∧ Dig 1073741824 ds ∧ val 1073741824 ds = val 1073741824 a / m ∧ Below w.heap.size w w' := by
  have I := info_int
  have HI := Lib.hid I
  clear I
  have HK := Lib.hid k1
  have L1 := Lib.hid g1.1
  clear k1
  have B0 := Below.refl w.heap.size w
  generalize hR : val 1073741824 a % m = R at *
  have HR := Lib.hid hR
  clear hR
  go_enter Tryz.func153, Tryz.ntmps153
  go_wp2_with (first | (at_make; refine make_num w.heap.size rfl _ _ 42 3 .i64 8 rfl Tryz.underlying42 HI.out _ _ _ _ n1 rfl rfl rfl rfl (by omega) (by omega) B0 (Nat.le_refl _) ?_; intro w3 hown HB3) | go_in)
  clear B0
  have hst := RSh.start a m m0
  rw [L1.out] at hst
  go_loopw [5, 6] (fun r i wr => ∃ (k : Nat) (q : List Int) (rr : Int), k ≤ n1 ∧ i = .int .i64 ((k : Int) - 1) ∧ r = .int .i64 rr ∧ RSh a m k q rr ∧ wr.ownsRow w.heap.size 3 1 (.slice (some ⟨w.heap.size, 0, none⟩) n1 n1) n1 (ints .i64 q) ∧ Below w.heap.size w wr) (fun _ i _ => (intOf i + 1).toNat)
  case atStart => exact ⟨n1, _, 0, Nat.le_refl _, rfl, rfl, hst, hown, HB3⟩
  case round =>
    clear hst hown HB3
    obtain ⟨k, q, rr, hk, rfl, rfl, hp, ho, hB⟩ := hrel
    by_cases h0 : k = 0
    · subst h0
      have hst := hp.stop
      rw [HR.out] at hst
      obtain ⟨hv, rfl⟩ := hst
      have hdg := hp.dig
      have HV := Lib.hid hv
      obtain ⟨Ao, co, eo, hco, hro, _⟩ := RdI.own ho
      simp only [Value.slice.injEq] at eo
      obtain ⟨rfl, _, rfl⟩ := eo
      clear hp hv
      go_wp2
      go_ret2
      exact ⟨_, _, _, rfl, q, hco, rfl, hro, hdg, HV.out, hB⟩
    · obtain ⟨k, rfl⟩ : ∃ j, k = j + 1 := ⟨k - 1, by omega⟩
      have e1 : ((k + 1 : Nat) : Int) - 1 = (k : Int) := by omega
      rw [e1]
      clear e1 h0
      obtain ⟨ga, oa, rfl, la, ca⟩ := g1.at_ (by omega)
      have ca1 : wr.cell? ⟨ga, oa + k, none⟩ = some (.int .i64 (a.getD k 0)) := (hB.cell (p := ⟨ga, oa + k, none⟩) la).trans (ca k (by omega))
      clear ca
      have hs := hp.step HK.out m0 m1 (by rw [L1.out]; omega)
      have da := HK.out.at k (by omega)
      have r0 := hp.r0
      have r1 := hp.r1
      obtain ⟨o1, o2⟩ := own_at ho k (by omega)
      generalize a.getD k 0 = x at *
      generalize q.getD k 0 = qk at *
      have hmz : (m == 0) = false := by simp; omega
      have v0 : 0 ≤ rr * 1073741824 + x := by omega
      have q0 : 0 ≤ (rr * 1073741824 + x) / m := Int.ediv_nonneg (by omega) (by omega)
      have q1 : (rr * 1073741824 + x) / m < 1073741824 := Int.ediv_lt_of_lt_mul (by omega) (by omega)
      have s0 : 0 ≤ (rr * 1073741824 + x) % m := Int.emod_nonneg _ (by omega)
      have s1 : (rr * 1073741824 + x) % m < m := Int.emod_lt_of_pos _ (by omega)
      obtain ⟨so, sb⟩ := own_set ho hB (Nat.le_refl _) k ((rr * 1073741824 + x) / m)
      go_wp2_with fail
      go_region
      all_goals
        go_wp2
        go_roundw
        case rel => exact ⟨k, _, _, by omega, rfl, rfl, hs, so, by first | exact sb | exact bl_drew sb⟩
        case measure => simp [intOf]
end Go.Proofs.YtloplmmnmehkmaaGreat
