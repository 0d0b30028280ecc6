/- Plain mathematics: the product of digits. -/
import Derived.Test.YtjmbpeniibdnoaaMath
set_option linter.unusedVariables false
set_option linter.unusedSimpArgs false
namespace Go.Proofs.Ytjmbpeniibdnoaa

theorem val_set (B : Int) (l : List Int) (j : Nat) (x : Int) (h : j < l.length) : val B (l.set j x) = val B l + B ^ j * (x - l.getD j 0) := by
  rw [val_split B l j h, val_split B (l.set j x) j (by simpa using h)]
  have e1 : (l.set j x).take j = l.take j := by rw [List.take_set_of_le (Nat.le_refl j)]
  have e2 : (l.set j x).drop (j + 1) = l.drop (j + 1) := by rw [List.drop_set_of_lt (by omega)]
  have e3 : (l.set j x).getD j 0 = x := by simp [List.getD_eq_getElem?_getD, List.getElem?_set_self h]
  rw [e1, e2, e3]
  grind
theorem Dig.set {B : Int} {l : List Int} (h : Dig B l) (j : Nat) {x : Int} (h0 : 0 ≤ x) (h1 : x < B) : Dig B (l.set j x) := by
  intro y hy
  rcases List.mem_or_eq_of_mem_set hy with hy | rfl
  · exact h y hy
  · exact ⟨h0, h1⟩
theorem getD_set_ne (l : List Int) (j i : Nat) (x : Int) (h : j ≠ i) : (l.set j x).getD i 0 = l.getD i 0 := by
  simp [List.getD_eq_getElem?_getD, List.getElem?_set, h]
theorem getD_set_eq (l : List Int) (j : Nat) (x : Int) (h : j < l.length) : (l.set j x).getD j 0 = x := by
  simp [List.getD_eq_getElem?_getD, List.getElem?_set_self h]
theorem val_replicate (B : Int) (n : Nat) : val B (List.replicate n 0) = 0 := by
  induction n with
  | zero => rfl
  | succ n ih => simp only [List.replicate_succ, val, ih]; simp
theorem Dig.zeros {B : Int} (hB : 0 < B) (n : Nat) : Dig B (List.replicate n 0) := by
  intro x hx
  rw [(List.mem_replicate.1 hx).2]
  omega
theorem getD_replicate (n i : Nat) : (List.replicate n (0 : Int)).getD i 0 = 0 := by
  rw [List.getD_eq_getElem?_getD, List.getElem?_replicate]
  split <;> rfl

/-- Behind i digits of x. -/
structure MulO (B : Int) (x y : List Int) (i : Nat) (out : List Int) : Prop where
  len : out.length = x.length + y.length
  dig : Dig B out
  zero : ∀ j, i + y.length ≤ j → out.getD j 0 = 0
  eq : val B out = val B (x.take i) * val B y
/-- Behind k digits of y, in the round of digit i. -/
structure MulI (B : Int) (x y : List Int) (i k : Nat) (out : List Int) (c : Int) : Prop where
  c0 : 0 ≤ c
  c1 : c < B
  len : out.length = x.length + y.length
  dig : Dig B out
  zero : ∀ j, i + y.length ≤ j → out.getD j 0 = 0
  eq : val B out + B ^ (i + k) * c = val B (x.take i) * val B y + B ^ i * (x.getD i 0 * val B (y.take k))
theorem MulO.start {B : Int} (hB : 0 < B) (x y : List Int) : MulO B x y 0 (List.replicate (x.length + y.length) 0) :=
  ⟨by simp, Dig.zeros hB _, fun j _ => getD_replicate _ _, by simp [val, val_replicate]⟩
theorem MulO.enter {B : Int} {x y out : List Int} {i : Nat} (hB : 0 < B) (h : MulO B x y i out) : MulI B x y i 0 out 0 :=
  ⟨by omega, hB, h.len, h.dig, h.zero, by simp [val, h.eq]⟩
theorem MulI.step {B : Int} {x y out : List Int} {i k : Nat} {c : Int} (hB : 0 < B) (h : MulI B x y i k out c) (hx : Dig B x) (hy : Dig B y) (hi : i < x.length) (hk : k < y.length) :
    MulI B x y i (k + 1) (out.set (i + k) ((c + (x.getD i 0 * y.getD k 0 + out.getD (i + k) 0)) % B)) ((c + (x.getD i 0 * y.getD k 0 + out.getD (i + k) 0)) / B) := by
  have h1 := hx.at i hB
  have h2 := hy.at k hB
  have h3 := h.dig.at (i + k) hB
  have c0 := h.c0
  have c1 := h.c1
  have p0 : 0 ≤ x.getD i 0 * y.getD k 0 := Int.mul_nonneg h1.1 h2.1
  have p1 : x.getD i 0 * y.getD k 0 ≤ (B - 1) * (B - 1) := Int.le_trans (Int.mul_le_mul_of_nonneg_right (show x.getD i 0 ≤ B - 1 by omega) h2.1) (Int.mul_le_mul_of_nonneg_left (show y.getD k 0 ≤ B - 1 by omega) (by omega))
  have p2 : (B - 1) * (B - 1) + 2 * (B - 1) = B * B - 1 := by grind
  have e := h.eq
  have hv := val_set B out (i + k) ((c + (x.getD i 0 * y.getD k 0 + out.getD (i + k) 0)) % B) (by rw [h.len]; omega)
  have ht := val_take_any B y k
  have hm := Int.emod_add_mul_ediv (c + (x.getD i 0 * y.getD k 0 + out.getD (i + k) 0)) B
  have hlt : (c + (x.getD i 0 * y.getD k 0 + out.getD (i + k) 0)) / B < B := Int.ediv_lt_of_lt_mul hB (by omega)
  have h0 : 0 ≤ (c + (x.getD i 0 * y.getD k 0 + out.getD (i + k) 0)) / B := Int.ediv_nonneg (by omega) (by omega)
  have m0 : 0 ≤ (c + (x.getD i 0 * y.getD k 0 + out.getD (i + k) 0)) % B := Int.emod_nonneg _ (by omega)
  have m1 : (c + (x.getD i 0 * y.getD k 0 + out.getD (i + k) 0)) % B < B := Int.emod_lt_of_pos _ hB
  refine ⟨h0, hlt, by simp [h.len], h.dig.set _ m0 m1, fun j hj => by rw [getD_set_ne _ _ _ _ (by omega)]; exact h.zero j hj, ?_⟩
  rw [hv, ht, ← Nat.add_assoc, Int.pow_succ]
  have hp : B ^ (i + k) = B ^ i * B ^ k := Int.pow_add _ _ _
  generalize (c + (x.getD i 0 * y.getD k 0 + out.getD (i + k) 0)) / B = q at *
  generalize (c + (x.getD i 0 * y.getD k 0 + out.getD (i + k) 0)) % B = r at *
  generalize x.getD i 0 = a at *
  generalize y.getD k 0 = b at *
  generalize out.getD (i + k) 0 = d at *
  rw [hp] at e ⊢
  generalize B ^ i = P at *
  generalize B ^ k = Q at *
  grind
theorem MulI.leave {B : Int} {x y out : List Int} {i : Nat} {c : Int} (hB : 0 < B) (h : MulI B x y i y.length out c) (hi : i < x.length) :
    MulO B x y (i + 1) (out.set (i + y.length) c) := by
  have c0 := h.c0
  have c1 := h.c1
  refine ⟨by simp [h.len], h.dig.set _ c0 c1, fun j hj => by rw [getD_set_ne _ _ _ _ (by omega)]; exact h.zero j (by omega), ?_⟩
  rw [val_set B out _ _ (by rw [h.len]; omega), h.zero _ (Nat.le_refl _), val_take_any]
  have e := h.eq
  rw [List.take_of_length_le (Nat.le_refl y.length)] at e
  generalize B ^ (i + y.length) = P at *
  generalize B ^ i = Q at *
  grind
theorem MulO.stop {B : Int} {x y out : List Int} (h : MulO B x y x.length out) : val B out = val B x * val B y := by
  rw [h.eq, List.take_of_length_le (Nat.le_refl _)]
end Go.Proofs.Ytjmbpeniibdnoaa
