/- The simplest number: what the program's steps need. -/
import Derived.Test.YtmeldkceajnobaaDoorSimp
import Derived.Test.YtmeldkceajnobaaDoorRatMath
set_option linter.unusedVariables false
set_option linter.unusedSimpArgs false
namespace Go.Proofs.YtmeldkceajnobaaDoor

theorem sub_sign_zero (a b : Rat) : (a - b).num.sign = 0 ↔ a = b := by
  rw [Int.sign_eq_zero_iff_zero, Rat.num_eq_zero]
  constructor
  · intro h
    have : a = (a - b) + b := by rw [Rat.sub_add_cancel]
    rw [this, h, Rat.zero_add]
  · intro h; rw [h, Rat.sub_self]
theorem sub_sign_le (a b : Rat) : (a - b).num.sign ≤ 0 ↔ a ≤ b := by
  have h1 : (a - b).num.sign ≤ 0 ↔ (a - b).num ≤ 0 := by
    rcases Int.lt_trichotomy (a - b).num 0 with h | h | h
    · rw [Int.sign_eq_neg_one_of_neg h]; omega
    · rw [h]; simp
    · rw [Int.sign_eq_one_of_pos h]; omega
  rw [h1]
  have h2 : (a - b).num ≤ 0 ↔ a - b ≤ 0 := by
    rw [Rat.le_iff]; simp
  rw [h2]
  grind
theorem floor_sz {q : Rat} (h0 : 0 ≤ q.num) {k : Nat} (s : SzR k q) : Sz k q.floor := by
  refine s.1.le ?_
  have := floor_nonneg q h0
  have : q.floor ≤ q.num := by
    rw [Rat.floor_def]
    exact Int.ediv_le_self _ h0
  omega
theorem int_sz {k : Nat} {n : Int} (s : Sz k n) (hk : 1 ≤ k) : SzR k ((n : Int) : Rat) := ⟨by rw [Rat.num_intCast]; exact s, by
  rw [Rat.den_intCast]
  unfold Sz
  show 1 < 2 ^ k
  exact Nat.one_lt_two_pow (by omega)⟩
theorem sz_of {k : Nat} {x y : Int} (s : Sz k y) (h0 : 0 ≤ x) (h1 : x ≤ y) : Sz k x := s.le (by omega)

/-- What the deep step needs. -/
theorem deep_law {q r : Rat} (h : ((q.floor : Int) : Rat) ≠ q) (h2 : ¬ ((q.floor : Int) : Rat) + 1 ≤ r) (h0 : 0 ≤ q.num) (hqr : q ≤ r) (s1 : SzR 64 q) (s2 : SzR 64 r) :
    (r - ((q.floor : Int) : Rat) ≠ 0 ∧ q - ((q.floor : Int) : Rat) ≠ 0) ∧ SzR 64 (r - ((q.floor : Int) : Rat)) ∧ SzR 64 (q - ((q.floor : Int) : Rat)) ∧
    0 ≤ (1 / (r - ((q.floor : Int) : Rat))).num ∧ 1 / (r - ((q.floor : Int) : Rat)) ≤ 1 / (q - ((q.floor : Int) : Rat)) ∧ SzR 64 (1 / (r - ((q.floor : Int) : Rat))) ∧ SzR 64 (1 / (q - ((q.floor : Int) : Rat))) ∧
    (1 / (r - ((q.floor : Int) : Rat))).den + (1 / (q - ((q.floor : Int) : Rat))).den < q.den + r.den ∧
    ∀ x, Simp (1 / (r - ((q.floor : Int) : Rat))) (1 / (q - ((q.floor : Int) : Rat))) x → x ≠ 0 ∧ SzR 64 x ∧ SzR 64 (1 / x) ∧ Simp q r (((q.floor : Int) : Rat) + 1 / x) := by
  have ka := deep_step q r h h2 h0 hqr q Rat.le_refl hqr
  have kb := deep_step q r h h2 h0 hqr r hqr Rat.le_refl
  have hle := deep_le q r q.floor q r ka.1 hqr
  have ia := rat_sub_int q q.floor
  have ib := rat_sub_int r q.floor
  have dq := den_pos' q
  have dr := den_pos' r
  have sa : SzR 64 (1 / (q - ((q.floor : Int) : Rat))) := ⟨by rw [ka.2.2.1]; exact s1.2, by rw [ka.2.2.2]; exact sz_of s1.2 (by omega) (by
    have := ka.2.1; rw [Int.add_mul] at this; omega)⟩
  have sb : SzR 64 (1 / (r - ((q.floor : Int) : Rat))) := ⟨by rw [kb.2.2.1]; exact s2.2, by rw [kb.2.2.2]; exact sz_of s2.2 (by omega) (by
    have := kb.2.1; rw [Int.add_mul] at this; omega)⟩
  refine ⟨⟨?_, ?_⟩, ?_, ?_, by rw [kb.2.2.1]; omega, hle, sb, sa, ?_, ?_⟩
  · intro e; have := congrArg Rat.num e; rw [ib.1] at this; simp at this; omega
  · intro e; have := congrArg Rat.num e; rw [ia.1] at this; simp at this; omega
  · refine ⟨?_, ?_⟩
    · rw [ib.1]; exact sz_of s2.2 (by omega) (by have := kb.2.1; rw [Int.add_mul] at this; omega)
    · rw [ib.2]; exact s2.2
  · refine ⟨?_, ?_⟩
    · rw [ia.1]; exact sz_of s1.2 (by omega) (by have := ka.2.1; rw [Int.add_mul] at this; omega)
    · rw [ia.2]; exact s1.2
  · have e1 := ka.2.1
    have e2 := kb.2.1
    rw [Int.add_mul] at e1 e2
    have f1 := ka.2.2.2
    have f2 := kb.2.2.2
    omega
  · intro x hx
    obtain ⟨l1, l2, l3, l4, l5⟩ := hx.least (by rw [kb.2.2.1]; omega) hle
    have hx0 := l4 (by rw [kb.2.2.1]; omega)
    have l6 := l5 _ Rat.le_refl hle
    have sx : SzR 64 x := ⟨sz_of sb.1 l3 l6.1, sz_of sb.2 (by omega) (by omega)⟩
    have i := rat_inv x hx0
    refine ⟨?_, sx, ⟨by rw [i.1]; exact sx.2, by rw [i.2]; exact sx.1⟩, Simp.deep q r x h h2 hx⟩
    intro e; rw [e] at hx0; simp at hx0
end Go.Proofs.YtmeldkceajnobaaDoor
