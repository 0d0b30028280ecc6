/- Plain mathematics: lists of digits and their values. -/
set_option linter.unusedVariables false
set_option linter.unusedSimpArgs false
namespace Go.Proofs.Ytjmbpeniibdnoaa

/-- The value of digits in base B, the lowest one first. -/
def val (B : Int) : List Int → Int
  | [] => 0
  | x :: xs => x + B * val B xs
/-- All elements are digits of base B. -/
def Dig (B : Int) (l : List Int) : Prop := ∀ x ∈ l, 0 ≤ x ∧ x < B

theorem val_append (B : Int) (xs ys : List Int) : val B (xs ++ ys) = val B xs + B ^ xs.length * val B ys := by
  induction xs with
  | nil => simp [val]
  | cons x xs ih =>
    simp only [List.cons_append, val, ih, List.length_cons, Int.pow_succ]
    grind

theorem Dig.tail {B x : Int} {l : List Int} (h : Dig B (x :: l)) : Dig B l := fun y hy => h y (by simp [hy])
theorem Dig.append {B : Int} {l m : List Int} (h : Dig B l) (k : Dig B m) : Dig B (l ++ m) := by
  intro x hx
  rcases List.mem_append.1 hx with hx | hx
  · exact h x hx
  · exact k x hx
theorem Dig.one {B x : Int} (h0 : 0 ≤ x) (h1 : x < B) : Dig B [x] := by
  intro y hy
  simp at hy
  subst hy
  exact ⟨h0, h1⟩
theorem Dig.nil {B : Int} : Dig B [] := by intro y hy; simp at hy
theorem Dig.take {B : Int} {l : List Int} (h : Dig B l) (n : Nat) : Dig B (l.take n) := fun x hx => h x (List.mem_of_mem_take hx)
theorem Dig.drop {B : Int} {l : List Int} (h : Dig B l) (n : Nat) : Dig B (l.drop n) := fun x hx => h x (List.mem_of_mem_drop hx)
theorem Dig.at {B : Int} {l : List Int} (h : Dig B l) (i : Nat) (hB : 0 < B) : 0 ≤ l.getD i 0 ∧ l.getD i 0 < B := by
  rw [List.getD_eq_getElem?_getD]
  by_cases hi : i < l.length
  · rw [List.getElem?_eq_getElem hi]
    exact h _ (List.getElem_mem hi)
  · rw [List.getElem?_eq_none (by omega)]
    exact ⟨Int.le_refl 0, hB⟩

theorem val_nonneg {B : Int} {l : List Int} (hB : 0 < B) (h : Dig B l) : 0 ≤ val B l := by
  induction l with
  | nil => simp [val]
  | cons x xs ih =>
    have h1 := h x (by simp)
    have h2 := ih h.tail
    have := Int.mul_nonneg (Int.le_of_lt hB) h2
    simp only [val]; omega

theorem val_lt {B : Int} {l : List Int} (hB : 0 < B) (h : Dig B l) : val B l < B ^ l.length := by
  induction l with
  | nil => simp [val]
  | cons x xs ih =>
    have h1 := h x (by simp)
    have h2 := ih h.tail
    simp only [val, List.length_cons, Int.pow_succ]
    have : B * (val B xs + 1) ≤ B * B ^ xs.length := Int.mul_le_mul_of_nonneg_left (by omega) (by omega)
    grind

theorem take_succ_getD (l : List Int) (i : Nat) (h : i < l.length) : l.take (i + 1) = l.take i ++ [l.getD i 0] := by
  rw [List.take_succ_eq_append_getElem h, List.getD_eq_getElem?_getD, List.getElem?_eq_getElem h]; rfl

theorem val_take_succ (B : Int) (l : List Int) (i : Nat) (h : i < l.length) : val B (l.take (i + 1)) = val B (l.take i) + B ^ i * l.getD i 0 := by
  rw [take_succ_getD l i h, val_append]
  simp only [val, List.length_take, Nat.min_eq_left (Nat.le_of_lt h)]
  grind

theorem val_take_any (B : Int) (l : List Int) (i : Nat) : val B (l.take (i + 1)) = val B (l.take i) + B ^ i * l.getD i 0 := by
  by_cases h : i < l.length
  · exact val_take_succ B l i h
  · rw [List.take_of_length_le (by omega), List.take_of_length_le (by omega), List.getD_eq_getElem?_getD, List.getElem?_eq_none (by omega)]
    simp

theorem pow_pos' {B : Int} (hB : 0 < B) (n : Nat) : 0 < B ^ n := Int.pow_pos hB

/-- The digits of a value: what remains when zeros at the end are taken away. -/
theorem val_take_of_zero (B : Int) (l : List Int) (n : Nat) (h : ∀ i, n ≤ i → l.getD i 0 = 0) : val B (l.take n) = val B l := by
  have : ∀ k, val B (l.take (n + k)) = val B (l.take n) := by
    intro k
    induction k with
    | zero => rfl
    | succ k ih => rw [← Nat.add_assoc, val_take_any, ih, h (n + k) (by omega)]; simp
  rw [← this l.length, List.take_of_length_le (by omega)]

/-- No zero at the end. -/
def Trimmed (l : List Int) : Prop := l = [] ∨ 0 < l.getD (l.length - 1) 0

theorem drop_getD (l : List Int) (k : Nat) (h : k < l.length) : l.drop k = l.getD k 0 :: l.drop (k + 1) := by
  rw [List.drop_eq_getElem_cons h, List.getD_eq_getElem?_getD, List.getElem?_eq_getElem h]; rfl
theorem val_split (B : Int) (l : List Int) (k : Nat) (h : k < l.length) : val B l = val B (l.take k) + B ^ k * (l.getD k 0 + B * val B (l.drop (k + 1))) := by
  have := val_append B (l.take k) (l.drop k)
  rw [List.take_append_drop, drop_getD l k h, List.length_take, Nat.min_eq_left (by omega)] at this
  rw [this]; rfl
theorem val_take_lt {B : Int} {l : List Int} (hB : 0 < B) (h : Dig B l) (k : Nat) (hk : k ≤ l.length) : val B (l.take k) < B ^ k := by
  have := val_lt hB (h.take k)
  rwa [List.length_take, Nat.min_eq_left hk] at this
theorem val_take_ge {B : Int} {l : List Int} (hB : 0 < B) (h : Dig B l) (k : Nat) : 0 ≤ val B (l.take k) := val_nonneg hB (h.take k)

/-- The first difference decides. -/
theorem val_lt_at {B : Int} (hB : 0 < B) {a b : List Int} (ha : Dig B a) (hb : Dig B b) (hl : a.length = b.length) (k : Nat) (hk : k < a.length) (he : a.drop (k + 1) = b.drop (k + 1)) (hd : a.getD k 0 < b.getD k 0) : val B a < val B b := by
  rw [val_split B a k hk, val_split B b k (by omega), he]
  have h1 := val_take_lt hB ha k (by omega)
  have h2 := val_take_ge hB hb k
  have hp := pow_pos' hB k
  generalize val B (a.take k) = x at *
  generalize val B (b.take k) = y at *
  generalize B * val B (b.drop (k + 1)) = z at *
  generalize a.getD k 0 = p at *
  generalize b.getD k 0 = q at *
  have : B ^ k * (p + 1) ≤ B ^ k * q := Int.mul_le_mul_of_nonneg_left (by omega) (by omega)
  grind

theorem Trimmed.le {B : Int} (hB : 0 < B) {l : List Int} (hd : Dig B l) (ht : Trimmed l) (hn : l ≠ []) : B ^ (l.length - 1) ≤ val B l := by
  have hl : 0 < l.length := List.length_pos_iff.2 hn
  rcases ht with h | h
  · exact absurd h hn
  · rw [val_split B l (l.length - 1) (by omega)]
    have h1 := val_take_ge hB hd (l.length - 1)
    have hp := pow_pos' hB (l.length - 1)
    have e : l.drop (l.length - 1 + 1) = [] := by rw [List.drop_eq_nil_iff]; omega
    rw [e]
    simp only [val, Int.mul_zero, Int.add_zero]
    have : B ^ (l.length - 1) * 1 ≤ B ^ (l.length - 1) * l.getD (l.length - 1) 0 := Int.mul_le_mul_of_nonneg_left (by omega) (by omega)
    omega

theorem pow_mono {B : Int} (hB : 1 ≤ B) {m n : Nat} (h : m ≤ n) : B ^ m ≤ B ^ n := by
  obtain ⟨d, rfl⟩ : ∃ d, n = m + d := ⟨n - m, by omega⟩
  rw [Int.pow_add]
  have h1 := pow_pos' (show 0 < B by omega) m
  have h2 := pow_pos' (show 0 < B by omega) d
  have : B ^ m * 1 ≤ B ^ m * B ^ d := Int.mul_le_mul_of_nonneg_left (by omega) (by omega)
  omega

/-- Trimmed digits: the longer list has the greater value. -/
theorem val_lt_len {B : Int} (hB : 1 < B) {a b : List Int} (ha : Dig B a) (hb : Dig B b) (tb : Trimmed b) (h : a.length < b.length) : val B a < val B b := by
  have h1 := val_lt (by omega) ha
  have h2 := Trimmed.le (by omega) hb tb (by intro e; rw [e] at h; simp at h)
  have h3 := pow_mono (show 1 ≤ B by omega) (show a.length ≤ b.length - 1 by omega)
  omega

theorem val_inj {B : Int} (hB : 0 < B) : ∀ {a b : List Int}, Dig B a → Dig B b → a.length = b.length → val B a = val B b → a = b
  | [], [], _, _, _, _ => rfl
  | [], _ :: _, _, _, h, _ => by simp at h
  | _ :: _, [], _, _, h, _ => by simp at h
  | x :: xs, y :: ys, ha, hb, hl, hv => by
    simp only [val] at hv
    have hx := ha x (by simp)
    have hy := hb y (by simp)
    have e1 : x = y := by
      have : (x + B * val B xs) % B = (y + B * val B ys) % B := by rw [hv]
      rw [Int.add_mul_emod_self_left, Int.add_mul_emod_self_left, Int.emod_eq_of_lt hx.1 hx.2, Int.emod_eq_of_lt hy.1 hy.2] at this
      exact this
    subst e1
    have e2 : B * val B xs = B * val B ys := by omega
    have e3 := Int.eq_of_mul_eq_mul_left (by omega) e2
    rw [val_inj hB ha.tail hb.tail (by simpa using hl) e3]

theorem set_drop (l : List Int) (k : Nat) (x : Int) (h : k < l.length) : (l.set k x).drop k = x :: l.drop (k + 1) := by
  rw [drop_getD _ k (by simpa using h)]
  congr 1
  · simp [List.getD_eq_getElem?_getD, List.getElem?_set_self h]
  · rw [List.drop_set_of_lt (by omega)]

end Go.Proofs.Ytjmbpeniibdnoaa
