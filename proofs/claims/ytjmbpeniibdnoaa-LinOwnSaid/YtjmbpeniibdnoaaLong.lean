/- exact: long. -/
import Derived.Test.YtjmbpeniibdnoaaShl
import Derived.Test.YtjmbpeniibdnoaaInt7
import Derived.Test.YtjmbpeniibdnoaaKnuth3
set_option linter.unusedVariables false
set_option linter.unusedSimpArgs false
namespace Go.Proofs.Ytjmbpeniibdnoaa
open Go.RowKit

theorem RdI.far {W : World} {t : TypeId} {k : IntKind} {gv o n : Nat} {ds : List Int} (h : RdI W t k (some ⟨gv, o, none⟩) n ds) {g : Nat} (hg : gv ≠ g) (i : Nat) (x : Value) : RdI (W.setCell ⟨g, i, none⟩ x) t k (some ⟨gv, o, none⟩) n ds :=
  ⟨h.1, h.2.1, fun hn => by
    obtain ⟨g', off, cs, fr, h1, h2, h3⟩ := h.2.2 hn
    have e : g' = gv := by simp at h1; exact h1.1.symm
    exact ⟨g', off, cs, fr, h1, blk_other h2 _ (by simp; omega) x, h3⟩⟩
theorem own_far {W : World} {base e size n c g1 g i : Nat} {xs : List Value} (h : W.ownsRow base e size (.slice (some ⟨g1, 0, none⟩) n c) n xs) (hg : g1 ≠ g) (x : Value) : (W.setCell ⟨g, i, none⟩ x).ownsRow base e size (.slice (some ⟨g1, 0, none⟩) n c) n xs :=
  h.kept (row := some g) ⟨rfl, rfl, rfl, by simp, fun k _ hk => Below.heap_setCell _ _ _ _ (fun e => hk (by simp [e]))⟩ (.inr (by simp [Value.ownBlock, hg]))

theorem own_mono {W : World} {base b' e size n : Nat} {v : Value} {xs : List Value} (h : W.ownsRow base e size v n xs) (hb : b' ≤ base) : W.ownsRow b' e size v n xs := by
  obtain ⟨h1, h2⟩ := h
  refine ⟨h1, ?_⟩
  rcases h2 with h2 | ⟨g, cap, cur, h3, h4, h5⟩
  · exact .inl h2
  · exact .inr ⟨g, cap, cur, h3, Nat.le_trans hb h4, h5⟩

/-- The memory of a long division. -/
structure Mem3 (w W : World) (gu gv go N M m : Nat) (u v out : List Int) : Prop where
  u : W.ownsRow w.heap.size 118 1 (.slice (some ⟨gu, 0, none⟩) N N) N (ints .u32 u)
  o : W.ownsRow w.heap.size 118 1 (.slice (some ⟨go, 0, none⟩) M M) M (ints .u32 out)
  v : RdI W 118 .u32 (some ⟨gv, 0, none⟩) m v
  b : Below w.heap.size w W
  uv : gu ≠ gv
  uo : gu ≠ go
  vo : gv ≠ go
theorem Mem3.setU {w W : World} {gu gv go N M m : Nat} {u v out : List Int} (h : Mem3 w W gu gv go N M m u v out) (j : Nat) (x : Int) : Mem3 w (W.setCell ⟨gu, j, none⟩ (.int .u32 x)) gu gv go N M m (u.set j x) v out :=
  ⟨(own_set h.u h.b (Nat.le_refl _) j x).1, own_far h.o h.uo.symm _, h.v.far h.uv.symm _ _, (own_set h.u h.b (Nat.le_refl _) j x).2, h.uv, h.uo, h.vo⟩
theorem Mem3.setO {w W : World} {gu gv go N M m : Nat} {u v out : List Int} (h : Mem3 w W gu gv go N M m u v out) (j : Nat) (x : Int) : Mem3 w (W.setCell ⟨go, j, none⟩ (.int .u32 x)) gu gv go N M m u v (out.set j x) :=
  ⟨own_far h.u h.uo _, (own_set h.o h.b (Nat.le_refl _) j x).1, h.v.far h.vo _ _, (own_set h.o h.b (Nat.le_refl _) j x).2, h.uv, h.uo, h.vo⟩
theorem Mem3.drewN {w W : World} {gu gv go N M m : Nat} {u v out : List Int} (h : Mem3 w W gu gv go N M m u v out) (n : Nat) : Mem3 w (W.drewN n) gu gv go N M m u v out :=
  ⟨h.u, h.o, h.v.kp ((Kp.refl _ _).drewN _), bl_drewN h.b n, h.uv, h.uo, h.vo⟩
theorem Mem3.atU {w W : World} {gu gv go N M m : Nat} {u v out : List Int} (h : Mem3 w W gu gv go N M m u v out) (j : Nat) (hj : j < N) : W.cell? ⟨gu, j, none⟩ = some (.int .u32 (u.getD j 0)) ∧ W.frozen? ⟨gu, j, none⟩ = false := own_at h.u j hj
theorem Mem3.atO {w W : World} {gu gv go N M m : Nat} {u v out : List Int} (h : Mem3 w W gu gv go N M m u v out) (j : Nat) (hj : j < M) : W.cell? ⟨go, j, none⟩ = some (.int .u32 (out.getD j 0)) ∧ W.frozen? ⟨go, j, none⟩ = false := own_at h.o j hj
theorem Mem3.atV {w W : World} {gu gv go N M m : Nat} {u v out : List Int} (h : Mem3 w W gu gv go N M m u v out) (j : Nat) (hj : j < m) : W.cell? ⟨gv, j, none⟩ = some (.int .u32 (v.getD j 0)) := by
  obtain ⟨g, off, e, _, c⟩ := h.v.at_ (by omega)
  simp only [Option.some.injEq, Addr.mk.injEq, and_true] at e
  obtain ⟨rfl, rfl⟩ := e
  have := c j hj
  rwa [Nat.zero_add] at this

/-- Plain: what the shifted divisor is. -/
theorem shift_dv {ys es : List Int} {n s : Nat} (hn : ys.length = n + 2) (hd : Dig 4294967296 ys) (he : Dig 4294967296 es) (ht : Trimmed es) (hv : val 4294967296 es = 2 ^ s * val 4294967296 ys)
    (hs : s < 32) (h0 : 2147483648 ≤ ys.getD (n + 1) 0 * 2 ^ s) (h1 : ys.getD (n + 1) 0 * 2 ^ s < 4294967296) : Dv es n := by
  have hsp : (0 : Int) < 2 ^ s := Int.pow_pos (by omega)
  have e32 : (2 : Int) ^ s * 2 ^ (32 - s) = 4294967296 := by rw [← Int.pow_add, show s + (32 - s) = 32 by omega]; rfl
  have hP := pow_pos' (B := 4294967296) (by omega) (n + 1)
  have hsplit := val_split 4294967296 ys (n + 1) (by omega)
  rw [show ys.drop (n + 1 + 1) = [] by rw [List.drop_eq_nil_iff]; omega] at hsplit
  simp only [val, Int.mul_zero, Int.add_zero] at hsplit
  have l0 := val_take_ge (B := 4294967296) (by omega) hd (n + 1)
  have l1 := val_take_lt (B := 4294967296) (by omega) hd (n + 1) (by omega)
  have ht1 : (ys.getD (n + 1) 0 + 1) * 2 ^ s ≤ 4294967296 := by
    have : ys.getD (n + 1) 0 < 2 ^ (32 - s) := by
      apply Int.not_le.1
      intro hc
      have := Int.mul_le_mul_of_nonneg_right hc (show (0 : Int) ≤ 2 ^ s by omega)
      rw [Int.mul_comm, e32] at this
      omega
    have h2 := Int.mul_le_mul_of_nonneg_right (show ys.getD (n + 1) 0 + 1 ≤ 2 ^ (32 - s) by omega) (show (0 : Int) ≤ 2 ^ s by omega)
    rw [Int.mul_comm (2 ^ (32 - s)), e32] at h2
    exact h2
  have lo : 4294967296 ^ (n + 1) * 2147483648 ≤ val 4294967296 es := by
    rw [hv, hsplit]
    have a1 : 4294967296 ^ (n + 1) * 2147483648 ≤ 4294967296 ^ (n + 1) * (ys.getD (n + 1) 0 * 2 ^ s) := Int.mul_le_mul_of_nonneg_left h0 (by omega)
    have a2 := Int.mul_nonneg (show (0 : Int) ≤ 2 ^ s by omega) l0
    have a3 : (2 : Int) ^ s * (val 4294967296 (ys.take (n + 1)) + 4294967296 ^ (n + 1) * ys.getD (n + 1) 0) = 2 ^ s * val 4294967296 (ys.take (n + 1)) + 4294967296 ^ (n + 1) * (ys.getD (n + 1) 0 * 2 ^ s) := by grind
    omega
  have hi : val 4294967296 es < 4294967296 ^ (n + 2) := by
    have e : (4294967296 : Int) ^ (n + 2) = 4294967296 ^ (n + 1) * 4294967296 := Int.pow_succ _ _
    rw [hv, hsplit, e]
    have a1 : (2 : Int) ^ s * (val 4294967296 (ys.take (n + 1)) + 1) ≤ 2 ^ s * 4294967296 ^ (n + 1) := Int.mul_le_mul_of_nonneg_left (by omega) (by omega)
    have a2 : 4294967296 ^ (n + 1) * ((ys.getD (n + 1) 0 + 1) * 2 ^ s) ≤ 4294967296 ^ (n + 1) * 4294967296 := Int.mul_le_mul_of_nonneg_left ht1 (by omega)
    have a3 : (2 : Int) ^ s * (val 4294967296 (ys.take (n + 1)) + 4294967296 ^ (n + 1) * ys.getD (n + 1) 0) = 2 ^ s * (val 4294967296 (ys.take (n + 1)) + 1) - 2 ^ s + 4294967296 ^ (n + 1) * ((ys.getD (n + 1) 0 + 1) * 2 ^ s) - 2 ^ s * 4294967296 ^ (n + 1) := by grind
    omega
  have hne : es ≠ [] := by
    intro e
    rw [e] at lo
    simp only [val] at lo
    omega
  have hl : es.length = n + 2 := by
    have b1 := Trimmed.le (by omega) he ht hne
    have b2 := val_lt (B := 4294967296) (by omega) he
    have c1 : ¬ es.length ≤ n + 1 := by
      intro hc
      have := pow_mono (B := 4294967296) (by omega) hc
      have : (4294967296 : Int) ^ (n + 1) * 1 ≤ 4294967296 ^ (n + 1) * 2147483648 := Int.mul_le_mul_of_nonneg_left (by omega) (by omega)
      omega
    have c2 : ¬ n + 3 ≤ es.length := by
      intro hc
      have := pow_mono (B := 4294967296) (by omega) (show n + 2 ≤ es.length - 1 by omega)
      omega
    omega
  refine ⟨hl, he, ?_⟩
  have hsplit2 := val_split 4294967296 es (n + 1) (by omega)
  rw [show es.drop (n + 1 + 1) = [] by rw [List.drop_eq_nil_iff]; omega] at hsplit2
  simp only [val, Int.mul_zero, Int.add_zero] at hsplit2
  have m1 := val_take_lt (B := 4294967296) (by omega) he (n + 1) (by omega)
  apply Int.not_lt.1
  intro hc
  have : (4294967296 : Int) ^ (n + 1) * (es.getD (n + 1) 0 + 1) ≤ 4294967296 ^ (n + 1) * 2147483648 := Int.mul_le_mul_of_nonneg_left (by omega) (by omega)
  rw [Int.mul_add] at this
  omega
/-- Plain: the start. -/
theorem KI.start {us v : List Int} {p N s : Nat} (hu : us.length = N) (hN : p + 2 < N) (hd : Dig 4294967296 us) (hv : Dv v p) (hs : s < 32) (hl : us.getD (N - 1) 0 < 2 ^ s) :
    KI (val 4294967296 us) v p N (N - (p + 2)) us (List.replicate (N - (p + 2)) 0) := by
  refine ⟨hu, by simp, hd, Dig.zeros (by omega) _, ?_, fun j _ => getD_replicate _ _, by rw [val_replicate]; omega⟩
  have hs2 : (2 : Int) ^ s ≤ 2147483648 := by
    have : (2 : Nat) ^ s ≤ 2 ^ 31 := Nat.pow_le_pow_right (by omega) (by omega)
    have h2 : ((2 ^ s : Nat) : Int) ≤ ((2 ^ 31 : Nat) : Int) := by exact_mod_cast this
    simpa using h2
  have hv1 := hv.top
  refine val_lt_at (B := 4294967296) (by omega) (hd.drop _) hv.dig (by rw [List.length_drop, hu, hv.len]; omega) (p + 1) (by rw [List.length_drop, hu]; omega) ?_ ?_
  · rw [List.drop_of_length_le (by rw [List.length_drop, hu]; omega), List.drop_of_length_le (by rw [hv.len]; omega)]
  · rw [getD_drop, show N - (p + 2) + (p + 1) = N - 1 by omega]
    omega

set_option maxHeartbeats 3200000 in
set_option maxRecDepth 100000 in
theorem long_calls (X1 : Option Addr) (n1 d1 : Nat) (xs : List Int) (X2 : Option Addr) (p d2 : Nat) (ys : List Int) (w : World) (h1 : RdI w 118 .u32 X1 n1 xs) (h2 : RdI w 118 .u32 X2 (p + 2) ys) (k1 : Dig 4294967296 xs) (k2 : Dig 4294967296 ys)
    (hn1 : n1 ≤ 1000000000) (hnp : p + 2 ≤ n1) (hd1 : n1 ≤ d1) (hd2 : p + 2 ≤ d2) (htop : 0 < ys.getD (p + 1) 0) :
    Calls Try.prog 80 #[.slice X1 n1 d1, .slice X2 (p + 2) d2] w fun e w' => ∃ (A : Option Addr) (n c : Nat) (qs : List Int) (A' : Option Addr) (n' c' : Nat) (rs : List Int), e = .returned (.tuple #[.slice A n c, .slice A' n' c']) ∧ n ≤ c ∧ n' ≤ c' ∧ RdI w' 118 .u32 A n qs ∧ RdI w' 118 .u32 A' n' rs ∧ Dig 4294967296 qs ∧ Dig 4294967296 rs ∧ val 4294967296 xs = val 4294967296 ys * val 4294967296 qs + val 4294967296 rs ∧ val 4294967296 rs < val 4294967296 ys ∧ Below w.heap.size w w' := by
  have I := info_u32
  have HI := Lib.hid I
  have K1 := Lib.hid k1
  have K2 := Lib.hid k2
  have L1 := Lib.hid h1.1
  have L2 := Lib.hid h2.1
  have htop1 := (k2.at (p + 1) (by omega)).2
  clear I k1 k2
  obtain ⟨g2, o2, rfl, l2, c2⟩ := h2.at_ (by omega)
  have ct := c2 (p + 1) (by omega)
  clear c2
  generalize ey : ys.getD (p + 1) 0 = yt at *
  have EY := Lib.hid ey
  clear ey
  go_enter Try.func80, Try.ntmps80
  go_wp2_with fail
  refine (leading_calls yt _ htop htop1).mono ?_
  rintro e w' ⟨s, rfl, hs, hs0, hs1, hw⟩
  have hw := hw.symm
  subst hw
  have HS0 := Lib.hid hs0
  have HS1 := Lib.hid hs1
  clear hs0 hs1 ct
  go_wp2_with fail
  refine (shifted_calls _ _ _ xs s _ h1 K1.out hn1 hs).mono ?_
  rintro e w1 ⟨gu, us, rfl, ho1, hdu, hvu, hlu, hB1⟩
  have HVU := Lib.hid hvu
  clear hvu
  go_wp2_with fail
  refine (shifted_calls _ _ _ ys s _ (h2.below hB1) K2.out (by omega) hs).mono ?_
  rintro e w2 ⟨gv, vs0, rfl, ho2, hdv, hvv, hlv, hB2⟩
  have HVV := Lib.hid hvv
  clear hvv
  have gu1 : w.heap.size ≤ gu ∧ gu < w1.heap.size := ho1.lt gu rfl
  have gv1 : w1.heap.size ≤ gv ∧ gv < w2.heap.size := ho2.lt gv rfl
  obtain ⟨Av, cv, ev, hcv, hrv, _⟩ := RdI.own ho2
  simp only [Value.slice.injEq] at ev
  obtain ⟨rfl, _, rfl⟩ := ev
  go_wp2_with fail
  refine (trim_calls _ _ _ vs0 _ hrv hdv (Nat.le_refl _)).mono ?_
  rintro e w3 ⟨m, rfl, hm, hrd, htr, hvt, rfl⟩
  have hdv2 := hdv.take m
  generalize vs0.take m = vs at *
  have hdvv := shift_dv h2.1 K2.out hdv2 htr (hvt.trans HVV.out) hs (by rw [EY.out]; exact HS0.out) (by rw [EY.out]; exact HS1.out)
  have em : m = p + 2 := by rw [← hrd.1]; exact hdvv.len
  subst em
  have HV := Lib.hid (hvt.trans HVV.out)
  have ho1' := own_alloc_below ho1 hB2
  have HB := bl_then hB1 hB2
  have hB2s := Lib.hid hB2.size
  have hsu := Lib.hid (own_len ho1)
  have hDv := Lib.hid hdvv
  have hHU := Lib.hid hdu
  have hHL := Lib.hid hlu
  clear hB1 hB2 ho1 ho2 hvt htr hdvv HVV hdv2 hdv hrv hdu hlu hlv
  go_wp2_with (first | (at_make; refine make_num w3.heap.size rfl _ _ 59 118 .u32 4 rfl Try.underlying59 HI.out _ _ _ _ (n1 + 1 - (p + 2)) rfl rfl (by omega) (by omega) (by omega) (by omega) (Below.refl w3.heap.size w3) (Nat.le_refl _) ?_; intro w4 hown HB3) | go_in)
  have hvb : w1.heap.size ≤ w3.heap.size := hB2s.out
  have HM : Mem3 w w4 gu gv w3.heap.size (n1 + 1) (n1 + 1 - (p + 2)) (p + 2) us vs (List.replicate (n1 + 1 - (p + 2)) 0) :=
    ⟨own_alloc_below ho1' HB3, own_mono hown HB.size, hrd.below HB3, bl_then HB HB3, by omega, by omega, by omega⟩
  have HK := KI.start (N := n1 + 1) (hsu.out) (by omega) hHU.out hDv.out hs hHL.out
  generalize w3.heap.size = go at *
  generalize eM : n1 - (p + 1) = M at *
  have eM2 : n1 + 1 - (p + 2) = M := by omega
  rw [eM2] at HM HK
  have EM := Lib.hid eM2
  have hML : 0 < M := by omega
  have hMN : M + (p + 1) = n1 := by omega
  generalize List.replicate M (0 : Int) = out0 at *
  clear eM eM2 hown HB3
  generalize eX : val 4294967296 us = X at *
  have EX := Lib.hid eX
  have eMN := Lib.hid hMN
  have bN : M + p + 1 ≤ n1 := by omega
  have bN2 : n1 ≤ M + p + 1 := by omega
  clear hMN eX
  go_loopg [11] M (fun kq k wr => ∃ (u out : List Int), kq ≤ M ∧ k = .int .i64 ((kq : Int) - 1) ∧ KI X vs p (n1 + 1) kq u out ∧ Mem3 w wr gu gv go (n1 + 1) M (p + 2) u vs out)
  case atStart => exact ⟨us, out0, Nat.le_refl _, by congr 1; omega, HK, HM⟩
  case round =>
    clear HM HK
    obtain ⟨u, out, hkM, rfl, hK, hM⟩ := hrel
    cases gk with
    | zero =>
      have dU := Lib.hid hK.du
      have hr0 := Rs.start u (2 ^ s) (p + 2)
      have B1 := Below.refl wr.heap.size wr
      go_wp2_with (first | (at_make; refine make_num wr.heap.size rfl _ _ 59 118 .u32 4 rfl Try.underlying59 HI.out _ _ _ _ (p + 2) rfl rfl (by omega) (by omega) (by omega) (by omega) B1 (Nat.le_refl _) ?_; intro w5 hown5 HB5) | go_in)
      clear B1
      have lgu := (hM.u.lt gu rfl).2
      have ho6 := own_mono (b' := w.heap.size) hown5 (by have := hM.b.size; omega)
      have hB6 := bl_then hM.b HB5
      have hM6 := hM.u
      have XU := Lib.hid hK.lenu
      have hO6 := Lib.hid hM.o
      have hbu : w.heap.size ≤ gu := (hM.u.lt gu rfl).1
      have hKz := Lib.hid (fun (r : List Int) (hr : Rs u (2 ^ s) (p + 2) (p + 2) r) => hK.fin hDv.out HVU.out HV.out hs hr)
      have p0 := Lib.hid (show (0 : Int) < 2 ^ s from Int.pow_pos (by omega))
      have pc := Lib.hid (show (4294967296 : Int) = 2 ^ s * 2 ^ (32 - s) by rw [← Int.pow_add, show s + (32 - s) = 32 by omega]; rfl)
      have hown6 := hown5
      clear hown5
      generalize egr : wr.heap.size = gr at *
      have hsz := Lib.hid egr
      have hMb := Lib.hid hM.b
      have hKz2 := hK.dout
      have hdo := Lib.hid hKz2
      clear egr hM hK hKz2 HB hrd ho1'
      go_loopw [230] (fun iv wx => ∃ (t : Nat) (r : List Int), t ≤ p + 2 ∧ iv = .int .i64 t ∧ Rs u (2 ^ s) (p + 2) t r ∧ wx.ownsRow gr 118 1 (.slice (some ⟨gr, 0, none⟩) (p + 2) (p + 2)) (p + 2) (ints .u32 r) ∧ Below gr wr wx) (fun iv _ => p + 2 - (intOf iv).toNat)
      case atStart => exact ⟨0, _, by omega, rfl, hr0, hown6, HB5⟩
      case round =>
        clear hr0 hown6 HB5 ho6 hB6
        obtain ⟨t, r, ht, rfl, hS, ho, hB⟩ := hrel
        by_cases hlt : t < p + 2
        · have hS2 := hS.step dU.out p0.out pc.out hlt
          have d0 := dU.out.at t (by omega)
          have d1 := dU.out.at (t + 1) (by omega)
          have c0 : wr.cell? ⟨gu, t, none⟩ = some (.int .u32 (u.getD t 0)) := (hB.cell (p := ⟨gu, t, none⟩) lgu).trans (own_at hM6 t (by omega)).1
          have c1 : wr.cell? ⟨gu, t + 1, none⟩ = some (.int .u32 (u.getD (t + 1) 0)) := (hB.cell (p := ⟨gu, t + 1, none⟩) lgu).trans (own_at hM6 (t + 1) (by omega)).1
          obtain ⟨cr, fr⟩ := own_at ho t hlt
          generalize u.getD t 0 = a0 at *
          generalize u.getD (t + 1) 0 = a1 at *
          have J := join32' a1 a0 d1.1 d1.2 d0.1 d0.2
          clear hM6
          have sh0 : 0 ≤ a1 * 4294967296 + a0 := by omega
          go_wp2_with fail
          go_region
          obtain ⟨so, sb⟩ := own_set ho hB (Nat.le_refl _) t ((a1 * 4294967296 + a0) / 2 ^ s % 4294967296)
          go_wp2
          go_roundw
          case rel => exact ⟨t + 1, _, by omega, by go_num, hS2, so, sb.drew⟩
          case measure => simp [intOf]; omega
        · have ht2 : t = p + 2 := by omega
          subst ht2
          have hF := hKz.out _ hS
          go_wp2
          go_ret2
          have hB' := hB
          rw [← hsz.out] at hB'
          obtain ⟨A2, c2, ev2, hc2, hr2, _⟩ := RdI.own ho
          obtain ⟨A3, c3, ev3, hc3, hr3, _⟩ := RdI.own (own_alloc_below hO6.out hB')
          simp only [Value.slice.injEq] at ev2 ev3
          obtain ⟨rfl, _, rfl⟩ := ev2
          obtain ⟨rfl, _, rfl⟩ := ev3
          exact ⟨_, M, M, out, _, p + 2, p + 2, r, rfl, Nat.le_refl _, Nat.le_refl _, hr3, hr2, hdo.out, hS.dig, hF.1, hF.2, bl_then hMb.out hB'⟩
    | succ i =>
      have e1 : ((i + 1 : Nat) : Int) - 1 = (i : Int) := by omega
      rw [e1]
      clear e1
      have hU2 := (hM.atU (i + (p + 2)) (by omega)).1
      have hU1 := (hM.atU (i + (p + 1)) (by omega)).1
      have hU0 := (hM.atU (i + p) (by omega)).1
      have hV1 := hM.atV (p + 1) (by omega)
      have hV0 := hM.atV p (by omega)
      have dU2 := hK.du.at (i + (p + 2)) (by omega)
      have dU1 := hK.du.at (i + (p + 1)) (by omega)
      have dU0 := hK.du.at (i + p) (by omega)
      have dV1 := hDv.out.dig.at (p + 1) (by omega)
      have dV0 := hDv.out.dig.at p (by omega)
      have hR := hK.rd hDv.out
      have hG := Gs.start hR hDv.out hK.du rfl
      have J := join32 (u.getD (i + (p + 2)) 0) (u.getD (i + (p + 1)) 0) dU2.1 dU2.2 dU1.1 dU1.2
      simp only [Nat.add_assoc] at hG
      generalize eu2 : u.getD (i + (p + 2)) 0 = a2 at *
      generalize eu1 : u.getD (i + (p + 1)) 0 = a1 at *
      generalize eu0 : u.getD (i + p) 0 = a0 at *
      generalize ev1 : vs.getD (p + 1) 0 = b1 at *
      generalize ev0 : vs.getD p 0 = b0 at *
      have E := Lib.hid (And.intro eu2 (And.intro eu1 (And.intro eu0 (And.intro ev1 ev0))))
      clear eu2 eu1 eu0 ev1 ev0
      go_wp2_with fail
      go_quiet (fail)
      generalize val 4294967296 (u.drop i) = T at *
      generalize T / val 4294967296 vs = qs at *
      have b1p : 2147483648 ≤ b1 := by have := hDv.out.top; rw [E.out.2.2.2.1] at this; exact this
      have q00 : 0 ≤ (a2 * 4294967296 + a1) / b1 := Int.ediv_nonneg (by omega) (by omega)
      have r00 : 0 ≤ (a2 * 4294967296 + a1) % b1 := Int.emod_nonneg _ (by omega)
      have r01 : (a2 * 4294967296 + a1) % b1 < b1 := Int.emod_lt_of_pos _ (by omega)
      have q01 := hG.q1
      go_upto_block 2 with (fail)
      clear hU2 hU1 hU0 hV1 hV0 J
      replace hM := hM.drewN nq
      generalize wr.drewN nq = W0 at *
      generalize (a2 * 4294967296 + a1) / b1 = q0 at *
      generalize (a2 * 4294967296 + a1) % b1 = r0 at *
      generalize a2 * 4294967296 + a1 = aa at *
      go_cut [13] (fun qv wc => ∃ (q : Int) (nd : Nat), qv = .int .u64 q ∧ 0 ≤ q ∧ Good qs q ∧ wc = W0.drewN nd)
      case first =>
        have hU0 := (hM.atU (i + p) (by omega)).1
        have hV1 := hM.atV (p + 1) (by omega)
        have hV0 := hM.atV p (by omega)
        rw [E.out.2.2.1] at hU0
        have hU0' : W0.cell? ⟨gu, i + (p + 2) - 2, none⟩ = some (.int .u32 a0) := hU0
        rw [E.out.2.2.2.1] at hV1
        rw [E.out.2.2.2.2] at hV0
        go_wp2_with fail
        go_loopw [13, 14] (fun qv rv wr => ∃ (q r : Int) (nd : Nat), qv = .int .u64 q ∧ rv = .int .u64 r ∧ Gs vs p i u qs aa q r ∧ r < 4294967296 ∧ 0 ≤ q ∧ wr = W0.drewN nd) (fun qv _ _ => (intOf qv).toNat)
        case atStart => exact ⟨q0, r0, 0, rfl, rfl, hG, by omega, q00, rfl⟩
        case round =>
          clear hG q00 r00 r01 q01
          obtain ⟨q, r, nd, rfl, rfl, hG, hrB, hq0, rfl⟩ := hrel
          have hr0 := hG.r0
          have hq1 := hG.q1
          by_cases hqB : 4294967296 ≤ q
          · have g1 : decide (4294967296 ≤ q) = true := by simpa using hqB
            have hG2 := hG.dec hR hDv.out hK.du (.inl hqB)
            rw [E.out.2.2.2.1] at hG2
            go_wp2_with fail
            go_quiet (fail)
            by_cases hbr : 4294967296 ≤ r + b1
            · have hgood := hG2.good hR hDv.out hK.du (.inr hbr)
              go_wp2
              go_meet
              case rel => exact ⟨q - 1, _, rfl, by omega, hgood, by first | rfl | simp only [World.drewN_drewN]⟩
            · go_wp2
              go_roundw
              case rel => exact ⟨q - 1, r + b1, _, rfl, rfl, hG2, by omega, by omega, by first | rfl | simp only [World.drewN_drewN]⟩
              case measure => simp [intOf]; omega
          · have g1 : decide (4294967296 ≤ q) = false := by simpa using hqB
            have pb := mul_bounds (a := q) (b := b0) (by omega) (by omega) (by omega) (by omega)
            have J := join32 r a0 (by omega) (by omega) dU0.1 dU0.2
            by_cases hc : r * 4294967296 + a0 < q * b0
            · have g2 : decide (r * 4294967296 + a0 < q * b0) = true := by simpa using hc
              have hG2 := hG.dec hR hDv.out hK.du (.inr (by rw [E.out.2.2.1, E.out.2.2.2.2]; exact hc))
              rw [E.out.2.2.2.1] at hG2
              have q1p : 1 ≤ q := by
                rcases Int.lt_or_eq_of_le hq0 with h | h
                · omega
                · rw [← h, Int.zero_mul] at hc; omega
              go_wp2_with fail
              go_quiet (fail)
              by_cases hbr : 4294967296 ≤ r + b1
              · have hgood := hG2.good hR hDv.out hK.du (.inr hbr)
                go_wp2
                go_meet
                case rel => exact ⟨q - 1, nd + nq, rfl, by omega, hgood, by first | rfl | simp only [World.drewN_drewN]⟩
              · go_wp2
                go_roundw
                case rel =>
                  first
                  | exact ⟨nd + nq, by first | rfl | simp only [World.drewN_drewN]⟩
                  | exact ⟨q - 1, r + b1, nd + nq, rfl, rfl, hG2, by omega, by omega, by first | rfl | simp only [World.drewN_drewN]⟩
                case measure => simp [intOf]; omega
            · have g2 : decide (r * 4294967296 + a0 < q * b0) = false := by simpa using hc
              have hgood := hG.good hR hDv.out hK.du (.inl ⟨by omega, by rw [E.out.2.2.1, E.out.2.2.2.2]; omega⟩)
              go_wp2_with fail
              go_quiet (fail)
              go_wp2
              go_meet
              case rel => exact ⟨q, nd + nq, rfl, by omega, hgood, by first | rfl | simp only [World.drewN_drewN]⟩
      case rest =>
        clear hG q00 r00 r01 q01
        obtain ⟨q, nd, rfl, hq0, hgood, rfl⟩ := hcut
        replace hM := hM.drewN nd
        generalize W0.drewN nd = W1 at *
        have hqB := hgood.lt
        go_wp2_with fail
        have hS0 := Sb.start (v := vs) hK.du i q
        have LU := Lib.hid hK.lenu
        have DU := Lib.hid hK.du
        go_loopw [15, 16, 128] (fun bv cv iv wr => ∃ (t : Nat) (uu : List Int) (bo ca : Int), t ≤ p + 2 ∧ iv = .int .i64 t ∧ bv = .int .u64 bo ∧ cv = .int .u64 ca ∧ Sb vs i q u t uu bo ca ∧ Mem3 w wr gu gv go (n1 + 1) M (p + 2) uu vs out) (fun _ _ iv _ => p + 2 - (intOf iv).toNat)
        case atStart => exact ⟨0, u, 0, 0, by omega, rfl, rfl, rfl, hS0, hM⟩
        case round =>
          clear hS0 hM
          obtain ⟨t, uu, bo, ca, ht, rfl, rfl, rfl, hS, hM⟩ := hrel
          have b0' := hS.b0
          have b1' := hS.b1
          have c0' := hS.c0
          have c1' := hS.c1
          by_cases hlt : t < p + 2
          · have hS2 := hS.step hDv.out.dig DU.out (by rw [LU.out]; omega) hq0 hqB
            have hd := hDv.out.dig.at t (by omega)
            have ho := DU.out.at (i + t) (by omega)
            have cv := hM.atV t hlt
            obtain ⟨cu, fu⟩ := hM.atU (i + t) (by omega)
            rw [hS.ch.high (i + t) (by omega)] at cu
            generalize vs.getD t 0 = d at *
            generalize u.getD (i + t) 0 = o at *
            have pb := mul_bounds (a := q) (b := d) (by omega) (by omega) (by omega) (by omega)
            generalize epr : q * d = pr at *
            obtain ⟨w1', w2'⟩ := borrow64 o ((pr + ca) % 4294967296) bo ho.1 ho.2 (by omega) (by omega) b0' (by omega)
            generalize (o - (pr + ca) % 4294967296 - bo) % 4294967296 = nx at *
            generalize (if o - (pr + ca) % 4294967296 - bo < 0 then 1 else 0 : Int) = nb at *
            have hM2 := hM.setU (i + t) nx
            go_wp2_with fail
            go_roundw
            case rel => exact ⟨t + 1, _, _, _, by omega, by go_num, rfl, rfl, hS2, hM2⟩
            case measure => simp [intOf]; omega
          · have ht2 : t = p + 2 := by omega
            subst ht2
            obtain ⟨cu, fu⟩ := hM.atU (i + (p + 2)) (by omega)
            rw [hS.ch.high (i + (p + 2)) (by omega), E.out.1] at cu
            obtain ⟨w1', w2'⟩ := borrow64 a2 ca bo dU2.1 dU2.2 c0' (by omega) b0' (by omega)
            by_cases hneg : a2 - ca - bo < 0
            · rw [if_pos hneg] at w2'
              have hM2 := hM.setU (i + (p + 2)) ((a2 - ca - bo) % 4294967296)
              have hN := hK.neg hDv.out hR hgood (by omega) hS (by rw [E.out.1]; exact hneg)
              rw [E.out.1] at hN
              obtain ⟨hq1, hdu1, hlu1, hgu1⟩ := hN
              have HE := Lib.hid (fun (u2 : List Int) (c : Int) (hA : Ab vs i (uu.set (i + (p + 2)) ((a2 - ca - bo) % 4294967296)) (p + 2) u2 c) => hK.end1 hDv.out hR hgood (by omega) hS (by rw [E.out.1]; exact hneg) (by rw [E.out.1]; exact hA))
              rw [E.out.1] at HE
              clear hneg hM
              generalize (a2 - ca - bo) % 4294967296 = nx at *
              have hA0 := Ab.start (v := vs) hdu1 i
              generalize uu.set (i + (p + 2)) nx = u1 at *
              have LU1 := Lib.hid hlu1
              have DU1 := Lib.hid hdu1
              have GU1 := Lib.hid hgu1
              clear hlu1 hdu1 hgu1
              go_wp2_with fail
              go_loopw [22, 189] (fun cv iv wr => ∃ (t : Nat) (ux : List Int) (c : Int), t ≤ p + 2 ∧ iv = .int .i64 t ∧ cv = .int .u32 c ∧ Ab vs i u1 t ux c ∧ Mem3 w wr gu gv go (n1 + 1) M (p + 2) ux vs out) (fun _ iv _ => p + 2 - (intOf iv).toNat)
              case atStart => exact ⟨0, u1, 0, by omega, rfl, rfl, hA0, hM2⟩
              case round =>
                clear hA0 hM2 cu fu w1' w2'
                obtain ⟨t, ux, c, ht, rfl, rfl, hA, hM⟩ := hrel
                have c0 := hA.c0
                have c1 := hA.c1
                by_cases hlt : t < p + 2
                · have hA2 := hA.step hDv.out.dig DU1.out (by rw [LU1.out]; omega)
                  have hd := hDv.out.dig.at t (by omega)
                  have ho := DU1.out.at (i + t) (by omega)
                  have cv := hM.atV t hlt
                  obtain ⟨cu, fu⟩ := hM.atU (i + t) (by omega)
                  rw [hA.ch.high (i + t) (by omega)] at cu
                  generalize vs.getD t 0 = d at *
                  generalize u1.getD (i + t) 0 = o at *
                  go_wp2_with fail
                  refine (add32_calls o d c _ ho.1 ho.2 hd.1 hd.2 c0 c1).mono ?_
                  rintro e w5 ⟨rfl, hw5⟩
                  have hw5 := hw5.symm
                  subst hw5
                  generalize (o + d + c) % 4294967296 = nz at *
                  generalize (o + d + c) / 4294967296 = nc at *
                  have hM2 := hM.setU (i + t) nz
                  go_wp2_with fail
                  go_roundw
                  case rel =>
                    (repeat apply Exists.intro)
                    refine ⟨?_, rfl⟩
                    exact ⟨t + 1, _, _, by omega, by go_num, rfl, hA2, hM2⟩
                  case measure => simp [intOf]; omega
                · have ht2 : t = p + 2 := by omega
                  subst ht2
                  have hE := HE.out _ _ hA
                  obtain ⟨cu, fu⟩ := hM.atU (i + (p + 2)) (by omega)
                  rw [hA.ch.high (i + (p + 2)) (by omega), GU1.out] at cu
                  have hM2 := hM.setU (i + (p + 2)) ((nx + c) % 4294967296)
                  obtain ⟨co, fo⟩ := hM2.atO i (by omega)
                  have qm : (q - 1) % 4294967296 = q - 1 := by omega
                  have hM3 := hM2.setO i (q - 1)
                  go_wp2_with fail
                  go_roundg i
                  case measure => omega
                  case rel => exact ⟨_, _, by omega, rfl, hE, hM3⟩
            · rw [if_neg hneg] at w2'
              have hM2 := hM.setU (i + (p + 2)) ((a2 - ca - bo) % 4294967296)
              have hE := hK.end0 hDv.out hR hgood (by omega) hS (by rw [E.out.1]; exact hneg)
              rw [E.out.1] at hE
              clear hneg hM
              generalize (a2 - ca - bo) % 4294967296 = nx at *
              obtain ⟨co, fo⟩ := hM2.atO i (by omega)
              have qm : q % 4294967296 = q := by omega
              have hM3 := hM2.setO i q
              go_wp2_with fail
              go_roundg i
              case measure => omega
              case rel => exact ⟨_, _, by omega, rfl, hE, hM3⟩
end Go.Proofs.Ytjmbpeniibdnoaa
