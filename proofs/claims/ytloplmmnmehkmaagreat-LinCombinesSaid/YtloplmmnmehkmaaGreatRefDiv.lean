/- Plain mathematics: the reference's long division. -/
import Derived.Test.YtloplmmnmehkmaaGreatMulMath
set_option linter.unusedVariables false
set_option linter.unusedSimpArgs false
namespace Go.Proofs.YtloplmmnmehkmaaGreat

/-- A small value has no high digits. -/
theorem rhigh_zero {B : Int} (hB : 1 < B) {l : List Int} (h : Dig B l) (n : Nat) (hv : val B l < B ^ n) : val B (l.take n) = val B l ∧ ∀ i, n ≤ i → l.getD i 0 = 0 := by
  have hz : ∀ i, n ≤ i → l.getD i 0 = 0 := by
    intro i hi
    by_cases hl : i < l.length
    · have hs := val_split B l i hl
      have h0 := val_take_ge (by omega) h i
      have h1 := (h.at i (by omega)).1
      have h2 := val_nonneg (by omega) (h.drop (i + 1))
      have hp := pow_pos' (B := B) (by omega) i
      have hm := pow_mono (B := B) (by omega) hi
      rcases Int.lt_or_le 0 (l.getD i 0) with h3 | h3
      · exfalso
        have h4 : 0 ≤ B * val B (l.drop (i + 1)) := Int.mul_nonneg (by omega) h2
        have h5 : B ^ i * 1 ≤ B ^ i * (l.getD i 0 + B * val B (l.drop (i + 1))) := Int.mul_le_mul_of_nonneg_left (by omega) (by omega)
        omega
      · omega
    · rw [List.getD_eq_getElem?_getD, List.getElem?_eq_none (by omega)]; rfl
  exact ⟨val_take_of_zero B l n hz, hz⟩
theorem rval_drop_split (B : Int) (l : List Int) (k : Nat) (h : k ≤ l.length) : val B l = val B (l.take k) + B ^ k * val B (l.drop k) := by
  have := val_append B (l.take k) (l.drop k)
  rw [List.take_append_drop, List.length_take, Nat.min_eq_left h] at this
  exact this
theorem rval_drop_one (B : Int) (l : List Int) (k : Nat) (h : k < l.length) : val B (l.drop k) = l.getD k 0 + B * val B (l.drop (k + 1)) := by
  rw [drop_getD l k h]; rfl

/-- The state of the long division: the digits of q from k on are done. -/
structure DV (B U V : Int) (n : Nat) (k : Nat) (u q : List Int) : Prop where
  du : Dig B u
  dq : Dig B q
  len : u.length = q.length + n
  hk : k ≤ q.length
  top : val B (u.drop k) < V
  zero : ∀ i, i < k → q.getD i 0 = 0
  eq : U = V * val B q + val B u
theorem DV.start {B V : Int} (hB : 1 < B) {n m : Nat} {u : List Int} (du : Dig B u) (len : u.length = m + n) (top : val B (u.drop m) < V) : DV B (val B u) V n m u (List.replicate m 0) :=
  ⟨du, Dig.zeros (by omega) _, by simp [len], by simp, top, fun i _ => getD_replicate _ _, by rw [val_replicate]; simp⟩

/-- The part of u that a step works on. -/
theorem DV.part {B U V : Int} (hB : 1 < B) {n k : Nat} {u q : List Int} (h : DV B U V n (k + 1) u q) (hn : 1 ≤ n) (hV : V < B ^ n) :
    val B ((u.drop k).take (n + 1)) = val B (u.drop k) ∧ ((u.drop k).take (n + 1)).length = n + 1 ∧ 0 ≤ val B (u.drop k) ∧ val B (u.drop k) < B * V ∧ Dig B ((u.drop k).take (n + 1)) := by
  have hk := h.hk
  have hl := h.len
  have ht := h.top
  have h0 := val_nonneg (by omega) (h.du.drop k)
  have h1 := rval_drop_one B u k (by omega)
  have h2 := h.du.at k (by omega)
  have hlt : val B (u.drop k) < B * V := by
    have : B * (val B (u.drop (k + 1)) + 1) ≤ B * V := Int.mul_le_mul_of_nonneg_left (by omega) (by omega)
    rw [h1]
    grind
  have hlt2 : val B (u.drop k) < B ^ (n + 1) := by
    have : B * V ≤ B * B ^ n := Int.mul_le_mul_of_nonneg_left (by omega) (by omega)
    rw [Int.pow_succ]
    grind
  refine ⟨(rhigh_zero hB (h.du.drop k) (n + 1) hlt2).1, by rw [List.length_take, List.length_drop]; omega, h0, hlt, (h.du.drop k).take _⟩

/-- The estimate of a digit isn't too small. -/
theorem DV.est {B V W t s vt : Int} {n : Nat} (hB : 1 < B) (hn : 1 ≤ n) {p v : List Int} (dp : Dig B p) (lp : p.length = n + 1) (hW : val B p = W) (dv : Dig B v) (lv : v.length = n) (hV : val B v = V) (hV0 : 0 < V) (hWV : W < B * V)
    (ht : p.getD n 0 = t) (hs : p.getD (n - 1) 0 = s) (hvt : v.getD (n - 1) 0 = vt) (hvt0 : 0 < vt) : W / V ≤ min ((t * B + s) / vt) (B - 1) := by
  have hW0 := val_nonneg (by omega) dp
  have h1 : W / V < B := Int.ediv_lt_of_lt_mul hV0 (by omega)
  have hp := pow_pos' (B := B) (by omega) (n - 1)
  have hWs : W = val B (p.take (n - 1)) + B ^ (n - 1) * (s + B * t) := by
    have a1 := val_split B p (n - 1) (by omega)
    have a2 := rval_drop_one B p n (by omega)
    have e : p.drop (n + 1) = [] := by rw [List.drop_eq_nil_iff]; omega
    rw [e] at a2
    rw [show n - 1 + 1 = n by omega, a2, hs, ht, hW] at a1
    simp only [val, Int.mul_zero, Int.add_zero] at a1
    exact a1
  have hVs : V = val B (v.take (n - 1)) + B ^ (n - 1) * vt := by
    have a1 := val_split B v (n - 1) (by omega)
    have e : v.drop (n - 1 + 1) = [] := by rw [List.drop_eq_nil_iff]; omega
    rw [e, hvt, hV] at a1
    simp only [val, Int.mul_zero, Int.add_zero] at a1
    exact a1
  have b1 := val_take_lt (by omega) dp (n - 1) (by omega)
  have b2 := val_take_ge (B := B) (by omega) dv (n - 1)
  have h0 : 0 ≤ W / V := Int.ediv_nonneg (by omega) (by omega)
  have hm : V * (W / V) ≤ W := Int.mul_ediv_self_le (by omega)
  have h2 : W / V ≤ (t * B + s) / vt := by
    rw [Int.le_ediv_iff_mul_le hvt0]
    generalize W / V = e at *
    have c1 : B ^ (n - 1) * (e * vt) ≤ V * e := by
      rw [hVs]
      have := Int.mul_nonneg b2 h0
      grind
    have c2 : B ^ (n - 1) * (e * vt) < B ^ (n - 1) * (t * B + s + 1) := by
      have : W < B ^ (n - 1) * (t * B + s + 1) := by rw [hWs]; grind
      omega
    have := Int.lt_of_mul_lt_mul_left c2 (by omega)
    omega
  omega

/-- One digit of the quotient. -/
theorem DV.step {B U V e : Int} (hB : 1 < B) {n k : Nat} {u q d : List Int} (h : DV B U V n (k + 1) u q) (hn : 1 ≤ n) (hV0 : 0 < V) (hV : V < B ^ n) (he : e = val B (u.drop k) / V) (dd : Dig B d) (ld : d.length = n + 1) (hd : val B d = val B (u.drop k) - e * V) :
    DV B U V n k (u.take k ++ (d ++ u.drop (k + (n + 1)))) (q.set k e) := by
  obtain ⟨p1, p2, p3, p4, p5⟩ := h.part hB hn hV
  have hk := h.hk
  have hl := h.len
  have he0 : 0 ≤ e := by rw [he]; exact Int.ediv_nonneg p3 (by omega)
  have he1 : e < B := by rw [he]; exact Int.ediv_lt_of_lt_mul hV0 (by omega)
  have hz : val B (u.drop (k + (n + 1))) = 0 := by
    have a := rval_drop_split B (u.drop k) (n + 1) (by rw [List.length_drop]; omega)
    rw [List.drop_drop, p1] at a
    have hp := pow_pos' (B := B) (by omega) (n + 1)
    have hnn := val_nonneg (by omega) (h.du.drop (k + (n + 1)))
    rcases Int.lt_or_le 0 (val B (u.drop (k + (n + 1)))) with h3 | h3
    · have : 0 < B ^ (n + 1) * val B (u.drop (k + (n + 1))) := Int.mul_pos hp h3
      omega
    · omega
  have ltk : (u.take k).length = k := by rw [List.length_take]; omega
  have hdrop : (u.take k ++ (d ++ u.drop (k + (n + 1)))).drop k = d ++ u.drop (k + (n + 1)) := by
    conv => lhs; rw [show k = (u.take k).length from ltk.symm]
    rw [ltk]
    rw [List.drop_append_of_le_length (by omega), List.drop_of_length_le (by omega), List.nil_append]
  have hvd : val B (d ++ u.drop (k + (n + 1))) = val B d := by rw [val_append, hz]; simp
  have hr : val B d < V := by
    rw [hd, he]
    have := Int.emod_lt_of_pos (val B (u.drop k)) hV0
    have e2 := Int.emod_add_mul_ediv (val B (u.drop k)) V
    grind
  refine ⟨(h.du.take k).append (dd.append (h.du.drop _)), h.dq.set _ he0 he1, ?_, by simp; omega, by rw [hdrop, hvd]; exact hr, fun i hi => by rw [getD_set_ne _ _ _ _ (by omega)]; exact h.zero i (by omega), ?_⟩
  · simp only [List.length_append, ltk, ld, List.length_drop, List.length_set]
    omega
  · have hq := val_set B q k e (by omega)
    rw [hq, h.zero k (by omega), val_append, hvd, ltk, hd]
    have hu := rval_drop_split B u k (by omega)
    have e1 := h.eq
    rw [hu] at e1
    generalize val B (u.drop k) = a1 at *
    generalize val B (u.take k) = a2 at *
    generalize B ^ k = a3 at *
    grind

/-- The end of the long division. -/
theorem DV.stop {B f a b : Int} (hB : 1 < B) {n : Nat} {u q : List Int} (h : DV B (f * a) (f * b) n 0 u q) (hn : 1 ≤ n) (hf : 0 < f) (hb : 0 < b) (hV : f * b < B ^ n) :
    val B (u.take n) / f = a % b ∧ val B q = a / b := by
  have ht := h.top
  rw [List.drop_zero] at ht
  have h0 := val_nonneg (by omega) h.du
  rw [(rhigh_zero hB h.du n (by omega)).1]
  have e := h.eq
  have e1 : val B u = f * (a - b * val B q) := by grind
  have e2 : val B u / f = a - b * val B q := by rw [e1, Int.mul_ediv_cancel_left _ (by omega)]
  have r0 : 0 ≤ a - b * val B q := by
    rcases Int.lt_or_le (a - b * val B q) 0 with h3 | h3
    · have := Int.mul_lt_mul_of_pos_left h3 hf
      omega
    · exact h3
  have r1 : a - b * val B q < b := by
    have : f * (a - b * val B q) < f * b := by omega
    exact Int.lt_of_mul_lt_mul_left this (by omega)
  have := (Int.ediv_emod_unique (a := a) (b := b) (r := a - b * val B q) (q := val B q) hb).2 ⟨by omega, r0, r1⟩
  exact ⟨by rw [e2]; exact this.2.symm, this.1.symm⟩

/-- A zero at the top makes a list small. -/
theorem val_top {B : Int} (hB : 1 < B) {l : List Int} (h : Dig B l) (hn : 0 < l.length) (hv : B ^ (l.length - 1) ≤ val B l) : 0 < l.getD (l.length - 1) 0 := by
  have h1 := val_split B l (l.length - 1) (by omega)
  have e : l.drop (l.length - 1 + 1) = [] := by rw [List.drop_eq_nil_iff]; omega
  rw [e] at h1
  simp only [val, Int.mul_zero, Int.add_zero] at h1
  have h2 := val_take_lt (by omega) h (l.length - 1) (by omega)
  have h3 := (h.at (l.length - 1) (by omega)).1
  rcases Int.lt_or_le 0 (l.getD (l.length - 1) 0) with h4 | h4
  · exact h4
  · have h5 : l.getD (l.length - 1) 0 = 0 := by omega
    rw [h5] at h1
    omega

/-- The divisor and the dividend, multiplied. -/
theorem dv_setup {B f bl : Int} (hB : 1 < B) {a b us vs : List Int} {n1 n2 : Nat} (k1 : Dig B a) (k2 : Dig B b) (L1 : a.length = n1) (L2 : b.length = n2) (hn : 1 ≤ n2) (h12 : n2 ≤ n1) (hbl : b.getD (n2 - 1) 0 = bl) (h0 : 0 < bl) (f0 : 1 ≤ f) (hf : (bl + 1) * f ≤ B)
    (du : Dig B us) (dv : Dig B vs) (lu : us.length = n1 + 1) (lv : vs.length = n2 + 1) (vu : val B us = f * val B a) (vv : val B vs = f * val B b) :
    Dig B (vs.take n2) ∧ (vs.take n2).length = n2 ∧ val B (vs.take n2) = f * val B b ∧ f * val B b < B ^ n2 ∧ 0 < (vs.take n2).getD (n2 - 1) 0 ∧ 0 < f * val B b ∧ 0 < val B b ∧ DV B (f * val B a) (f * val B b) n2 (n1 + 1 - n2) us (List.replicate (n1 + 1 - n2) 0) := by
  have hp := pow_pos' (B := B) (by omega) (n2 - 1)
  have hbs : val B b = val B (b.take (n2 - 1)) + B ^ (n2 - 1) * bl := by
    have h1 := val_split B b (n2 - 1) (by omega)
    have e : b.drop (n2 - 1 + 1) = [] := by rw [List.drop_eq_nil_iff]; omega
    rw [e, hbl] at h1
    simp only [val, Int.mul_zero, Int.add_zero] at h1
    exact h1
  have hb1 := val_take_lt (by omega) k2 (n2 - 1) (by omega)
  have hb0 := val_take_ge (B := B) (by omega) k2 (n2 - 1)
  have hblp : B ^ (n2 - 1) * 1 ≤ B ^ (n2 - 1) * bl := Int.mul_le_mul_of_nonneg_left (by omega) (by omega)
  have hbpos : 0 < val B b := by omega
  have hge : B ^ (n2 - 1) ≤ val B b := by omega
  have hV0 : 0 < f * val B b := Int.mul_pos (by omega) hbpos
  have hfb : 1 * val B b ≤ f * val B b := Int.mul_le_mul_of_nonneg_right f0 (by omega)
  have hVlt : f * val B b < B ^ n2 := by
    have e1 : val B b < B ^ (n2 - 1) * (bl + 1) := by grind
    have e2 : f * val B b < f * (B ^ (n2 - 1) * (bl + 1)) := Int.mul_lt_mul_of_pos_left e1 (by omega)
    have e3 : B ^ (n2 - 1) * ((bl + 1) * f) ≤ B ^ (n2 - 1) * B := Int.mul_le_mul_of_nonneg_left hf (by omega)
    have e4 : B ^ n2 = B ^ (n2 - 1) * B := by rw [← Int.pow_succ]; congr 1; omega
    rw [e4]
    grind
  have hvt := (rhigh_zero hB dv n2 (by rw [vv]; exact hVlt)).1
  rw [vv] at hvt
  have lt2 : (vs.take n2).length = n2 := by rw [List.length_take]; omega
  refine ⟨dv.take n2, lt2, hvt, hVlt, ?_, hV0, hbpos, ?_⟩
  · have := val_top hB (dv.take n2) (by omega) (by rw [lt2, hvt]; omega)
    rwa [lt2] at this
  · rw [← vu]
    refine DV.start hB du (by omega) ?_
    have hs := rval_drop_split B us (n1 + 1 - n2) (by omega)
    have ht0 := val_take_ge (B := B) (by omega) du (n1 + 1 - n2)
    have ha := val_lt (by omega) k1
    rw [L1] at ha
    have hpm := pow_pos' (B := B) (by omega) (n1 + 1 - n2)
    have c1 : B ^ (n1 + 1 - n2) * val B (us.drop (n1 + 1 - n2)) < B ^ (n1 + 1 - n2) * (f * B ^ (n2 - 1)) := by
      have e4 : B ^ n1 = B ^ (n1 + 1 - n2) * B ^ (n2 - 1) := by rw [← Int.pow_add, show n1 + 1 - n2 + (n2 - 1) = n1 by omega]
      have e5 : f * val B a < f * B ^ n1 := Int.mul_lt_mul_of_pos_left ha (by omega)
      have e6 : f * B ^ n1 = B ^ (n1 + 1 - n2) * (f * B ^ (n2 - 1)) := by rw [e4]; grind
      omega
    have c2 := Int.lt_of_mul_lt_mul_left c1 (by omega)
    have c3 : f * B ^ (n2 - 1) ≤ f * val B b := Int.mul_le_mul_of_nonneg_left hge (by omega)
    omega
end Go.Proofs.YtloplmmnmehkmaaGreat
