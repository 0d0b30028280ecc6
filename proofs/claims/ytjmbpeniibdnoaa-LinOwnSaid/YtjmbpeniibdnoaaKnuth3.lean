/- Plain mathematics: long division, the two ends of a round. -/
import Derived.Test.YtjmbpeniibdnoaaKnuth2
import Derived.Test.YtjmbpeniibdnoaaBits
set_option linter.unusedVariables false
set_option linter.unusedSimpArgs false
namespace Go.Proofs.Ytjmbpeniibdnoaa

theorem borrow64 (o x bo : Int) (o0 : 0 ≤ o) (o1 : o < 4294967296) (x0 : 0 ≤ x) (x1 : x < 4294967296) (b0 : 0 ≤ bo) (b1 : bo ≤ 4294967296) :
    IntKind.u64.wrap (IntKind.u64.wrap (o - x) - bo) % 4294967296 = (o - x - bo) % 4294967296 ∧ IntKind.u64.wrap (IntKind.u64.wrap (o - x) - bo) / 9223372036854775808 = if o - x - bo < 0 then 1 else 0 := by
  rw [IntKind.wrap_u64, IntKind.wrap_u64]
  constructor
  · omega
  · split <;> omega

theorem KI.end0 {X : Int} {v : List Int} {p N i : Nat} {u out uu : List Int} {T qs q bo ca : Int} (h : KI X v p N (i + 1) u out) (hv : Dv v p) (hR : Rd v p i u T qs) (hg : Good qs q) (hi : i + (p + 2) < N)
    (hS : Sb v i q u (p + 2) uu bo ca) (hn : ¬ u.getD (i + (p + 2)) 0 - ca - bo < 0) : KI X v p N i (uu.set (i + (p + 2)) ((u.getD (i + (p + 2)) 0 - ca - bo) % 4294967296)) (out.set i q) := by
  rw [← hv.len] at hS
  have hL := hS.last h.du (by rw [h.lenu, hv.len]; exact hi)
  rw [hv.len, if_neg hn] at hL
  have e : (4294967296 : Int) ^ (i + (p + 2) + 1) = 4294967296 ^ i * 4294967296 ^ (p + 2 + 1) := by rw [show i + (p + 2) + 1 = i + (p + 2 + 1) by omega, Int.pow_add]
  have hL2 : Ch u (uu.set (i + (p + 2)) ((u.getD (i + (p + 2)) 0 - ca - bo) % 4294967296)) i (i + (p + 2) + 1) (4294967296 ^ i * (4294967296 ^ (p + 2 + 1) * 0 - q * val 4294967296 v)) := by
    have : (4294967296 : Int) ^ i * (4294967296 ^ (p + 2 + 1) * 0 - q * val 4294967296 v) = 4294967296 ^ (i + (p + 2) + 1) * 0 - 4294967296 ^ i * (q * val 4294967296 v) := by rw [e]; grind
    rw [this]; exact hL
  have hq := good_eq hR hv hg hL2
  subst hq
  exact h.next hv hR hi hL2
theorem KI.end1 {X : Int} {v : List Int} {p N i : Nat} {u out uu u2 : List Int} {T qs q bo ca c : Int} (h : KI X v p N (i + 1) u out) (hv : Dv v p) (hR : Rd v p i u T qs) (hg : Good qs q) (hi : i + (p + 2) < N)
    (hS : Sb v i q u (p + 2) uu bo ca) (hn : u.getD (i + (p + 2)) 0 - ca - bo < 0) (hA : Ab v i (uu.set (i + (p + 2)) ((u.getD (i + (p + 2)) 0 - ca - bo) % 4294967296)) (p + 2) u2 c) :
    KI X v p N i (u2.set (i + (p + 2)) (((u.getD (i + (p + 2)) 0 - ca - bo) % 4294967296 + c) % 4294967296)) (out.set i (q - 1)) := by
  rw [← hv.len] at hS
  have hlu : i + (p + 2) < u.length := by rw [h.lenu]; exact hi
  have hL := hS.last h.du (by rw [hv.len]; exact hlu)
  rw [hv.len, if_pos hn] at hL
  have e : (4294967296 : Int) ^ (i + (p + 2) + 1) = 4294967296 ^ i * 4294967296 ^ (p + 2 + 1) := by rw [show i + (p + 2) + 1 = i + (p + 2 + 1) by omega, Int.pow_add]
  have hlen : uu.length = u.length := by have := hL.len; simpa using this
  generalize hu1 : uu.set (i + (p + 2)) ((u.getD (i + (p + 2)) 0 - ca - bo) % 4294967296) = u1 at *
  have hg1 : u1.getD (i + (p + 2)) 0 = (u.getD (i + (p + 2)) 0 - ca - bo) % 4294967296 := by rw [← hu1, getD_set_eq _ _ _ (by rw [hlen]; exact hlu)]
  have hL2 : Ch u u1 i (i + (p + 2) + 1) (4294967296 ^ i * (4294967296 ^ (p + 2 + 1) * 1 - q * val 4294967296 v)) := by
    have : (4294967296 : Int) ^ i * (4294967296 ^ (p + 2 + 1) * 1 - q * val 4294967296 v) = 4294967296 ^ (i + (p + 2) + 1) * 1 - 4294967296 ^ i * (q * val 4294967296 v) := by rw [e]; grind
    rw [this]; exact hL
  have hq := good_succ hR hv hg hL2
  rw [← hv.len] at hA
  have hA2 := hA.last hL2.dig (by rw [hL2.len, hv.len]; exact hlu)
  rw [hv.len, hg1] at hA2
  have hT := hL2.trans hA2
  subst hq
  have hd : (4294967296 : Int) ^ i * (4294967296 ^ (p + 2 + 1) * 1 - q * val 4294967296 v) + (4294967296 ^ i * val 4294967296 v - 4294967296 ^ (i + (p + 2) + 1) * (((u.getD (i + (p + 2)) 0 - ca - bo) % 4294967296 + c) / 4294967296)) = 4294967296 ^ i * (4294967296 ^ (p + 2 + 1) * (1 - ((u.getD (i + (p + 2)) 0 - ca - bo) % 4294967296 + c) / 4294967296) - (q - 1) * val 4294967296 v) := by rw [e]; grind
  rw [hd] at hT
  exact h.next hv hR hi hT

theorem KI.neg {X : Int} {v : List Int} {p N i : Nat} {u out uu : List Int} {T qs q bo ca : Int} (h : KI X v p N (i + 1) u out) (hv : Dv v p) (hR : Rd v p i u T qs) (hg : Good qs q) (hi : i + (p + 2) < N)
    (hS : Sb v i q u (p + 2) uu bo ca) (hn : u.getD (i + (p + 2)) 0 - ca - bo < 0) : 1 ≤ q ∧ Dig 4294967296 (uu.set (i + (p + 2)) ((u.getD (i + (p + 2)) 0 - ca - bo) % 4294967296)) ∧ (uu.set (i + (p + 2)) ((u.getD (i + (p + 2)) 0 - ca - bo) % 4294967296)).length = N ∧ (uu.set (i + (p + 2)) ((u.getD (i + (p + 2)) 0 - ca - bo) % 4294967296)).getD (i + (p + 2)) 0 = (u.getD (i + (p + 2)) 0 - ca - bo) % 4294967296 := by
  rw [← hv.len] at hS
  have hlu : i + (p + 2) < u.length := by rw [h.lenu]; exact hi
  have hL := hS.last h.du (by rw [hv.len]; exact hlu)
  rw [hv.len, if_pos hn] at hL
  have e : (4294967296 : Int) ^ (i + (p + 2) + 1) = 4294967296 ^ i * 4294967296 ^ (p + 2 + 1) := by rw [show i + (p + 2) + 1 = i + (p + 2 + 1) by omega, Int.pow_add]
  have hlen : uu.length = u.length := by have := hL.len; simpa using this
  refine ⟨?_, hL.dig, by rw [hL.len, h.lenu], by rw [getD_set_eq _ _ _ (by rw [hlen]; exact hlu)]⟩
  have hL2 : Ch u (uu.set (i + (p + 2)) ((u.getD (i + (p + 2)) 0 - ca - bo) % 4294967296)) i (i + (p + 2) + 1) (4294967296 ^ i * (4294967296 ^ (p + 2 + 1) * 1 - q * val 4294967296 v)) := by
    have : (4294967296 : Int) ^ i * (4294967296 ^ (p + 2 + 1) * 1 - q * val 4294967296 v) = 4294967296 ^ (i + (p + 2) + 1) * 1 - 4294967296 ^ i * (q * val 4294967296 v) := by rw [e]; grind
    rw [this]; exact hL
  have := good_succ hR hv hg hL2
  have := hR.q0
  omega

/-- The end of it all. -/
theorem KI.fin {X : Int} {v : List Int} {p N : Nat} {u out : List Int} {x y : Int} {s : Nat} (h : KI X v p N 0 u out) (hv : Dv v p) (hX : X = 2 ^ s * x) (hV : val 4294967296 v = 2 ^ s * y) (hs : s < 32) {r : List Int} (hr : Rs u (2 ^ s) (p + 2) (p + 2) r) :
    x = y * val 4294967296 out + val 4294967296 r ∧ val 4294967296 r < y := by
  have hsp : (0 : Int) < 2 ^ s := Int.pow_pos (by omega)
  have e32 : (4294967296 : Int) = 2 ^ s * 2 ^ (32 - s) := by rw [← Int.pow_add, show s + (32 - s) = 32 by omega]; rfl
  have hlt := h.lt
  rw [List.drop_zero] at hlt
  have hz := high_zero (B := 4294967296) (by omega) h.du (Int.lt_trans hlt hv.lt)
  have hu : val 4294967296 u = 2 ^ s * (x - y * val 4294967296 out) := by
    have := h.eq
    rw [hX, hV] at this
    grind
  have h0 : u.getD 0 0 % 2 ^ s = 0 := by
    have e1 : val 4294967296 u = u.getD 0 0 + 4294967296 * val 4294967296 (u.drop 1) := by
      have := val_drop_cons 4294967296 u 0
      rwa [List.drop_zero] at this
    rw [hu] at e1
    have e2 : u.getD 0 0 = 2 ^ s * (x - y * val 4294967296 out - 2 ^ (32 - s) * val 4294967296 (u.drop 1)) := by
      have : u.getD 0 0 = 2 ^ s * (x - y * val 4294967296 out) - 2 ^ s * 2 ^ (32 - s) * val 4294967296 (u.drop 1) := by rw [← e32]; omega
      rw [this]; grind
    rw [e2]; exact Int.mul_emod_right _ _
  have hst := hr.stop hz h0
  rw [hu] at hst
  have e3 := Int.eq_of_mul_eq_mul_left (by omega) hst
  refine ⟨by omega, ?_⟩
  rw [hu, hV, ← e3] at hlt
  exact Int.lt_of_mul_lt_mul_left hlt (by omega)
end Go.Proofs.Ytjmbpeniibdnoaa
