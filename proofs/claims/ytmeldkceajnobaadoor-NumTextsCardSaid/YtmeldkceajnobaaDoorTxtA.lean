/- Printed numbers: plain law. Printed numbers: what Print and Parse answer. strconv.Itoa: the shelf's contract at this seat. num: Print. -/
import Derived.Test.YtmeldkceajnobaaDoorMath
import Derived.Lib.ItoaNum
import Derived.Test.YtmeldkceajnobaaDoorNum3
import Derived.Lib.ItoaLen
import Derived.Shelf.LaysM
import Derived.Shelf.Strconv.Itoa3
import Derived.Lib.AppendIntMem
import Derived.Test.YtmeldkceajnobaaDoorMem
import Derived.Test.YtmeldkceajnobaaDoorNum1
set_option linter.unusedVariables false
set_option linter.unusedSimpArgs false
namespace Go.Proofs.YtmeldkceajnobaaDoor

/-- A decimal digit. -/
def Dg (b : UInt8) : Prop := 48 ≤ b.toNat ∧ b.toNat ≤ 57
instance (b : UInt8) : Decidable (Dg b) := by unfold Dg; infer_instance
/-- At least one byte, digits alone. -/
def Ds (l : List UInt8) : Prop := l ≠ [] ∧ ∀ b ∈ l, Dg b
instance (l : List UInt8) : Decidable (Ds l) := by unfold Ds; infer_instance
/-- The number that digits write, behind the number n. -/
def dvalFrom (n : Nat) (l : List UInt8) : Nat := l.foldl (fun n b => n * 10 + (b.toNat - 48)) n
def dval (l : List UInt8) : Nat := dvalFrom 0 l
/-- Numerator and denominator of an unsigned text; none: it is no number. -/
def pz (l : List UInt8) : Option (Nat × Nat) :=
  match l.dropWhile (fun b => b.toNat != 47) with
  | [] => if Ds l then some (dval l, 1) else none
  | _ :: r => if Ds (l.takeWhile (fun b => b.toNat != 47)) ∧ Ds r ∧ dval r ≠ 0 then some (dval (l.takeWhile (fun b => b.toNat != 47)), dval r) else none

theorem dvalFrom_nil (n : Nat) : dvalFrom n [] = n := by unfold dvalFrom; rw [List.foldl_nil]
theorem dvalFrom_cons (n : Nat) (b : UInt8) (l : List UInt8) : dvalFrom n (b :: l) = dvalFrom (n * 10 + (b.toNat - 48)) l := by unfold dvalFrom; rw [List.foldl_cons]
theorem dvalFrom_append (n : Nat) (l m : List UInt8) : dvalFrom n (l ++ m) = dvalFrom (dvalFrom n l) m := by unfold dvalFrom; rw [List.foldl_append]
theorem dvalFrom_lt (n k : Nat) (l : List UInt8) (hd : ∀ b ∈ l, Dg b) (h : n < 10 ^ k) : dvalFrom n l < 10 ^ (k + l.length) := by
  induction l generalizing n k with
  | nil => rw [dvalFrom_nil]; simpa using h
  | cons b l ih =>
    rw [dvalFrom_cons]
    have hb := hd b (by simp)
    unfold Dg at hb
    have h1 := ih (n * 10 + (b.toNat - 48)) (k + 1) (fun c hc => hd c (by simp [hc])) (by rw [Nat.pow_succ]; omega)
    rw [show k + (b :: l).length = k + 1 + l.length by simp; omega]
    exact h1
theorem dval_lt (l : List UInt8) (hd : ∀ b ∈ l, Dg b) : dval l < 10 ^ l.length := by
  have h := dvalFrom_lt 0 0 l hd (by decide)
  rw [Nat.zero_add] at h
  exact h
theorem dvalFrom_le (n k : Nat) (l : List UInt8) (hd : ∀ b ∈ l, Dg b) (h : n < 10 ^ k) (N : Nat) (hN : k + l.length ≤ N) : dvalFrom n l < 10 ^ N :=
  Nat.lt_of_lt_of_le (dvalFrom_lt n k l hd h) (Nat.pow_le_pow_right (by decide) hN)

theorem Dg_ofNat (u : Nat) (h : u < 10) : Dg (UInt8.ofNat (48 + u)) ∧ (UInt8.ofNat (48 + u)).toNat = 48 + u := by
  have : (UInt8.ofNat (48 + u)).toNat = 48 + u := by
    rw [UInt8.toNat_ofNat']
    omega
  exact ⟨by unfold Dg; omega, this⟩
theorem decDigits_ds (u : Nat) : Ds (Lib.decDigits u) := by
  induction u using Nat.strongRecOn with
  | ind u ih =>
    rw [Lib.decDigits]
    split
    · rename_i h
      exact ⟨by simp, fun b hb => by rw [List.mem_singleton] at hb; rw [hb]; exact (Dg_ofNat u h).1⟩
    · rename_i h
      have h1 := ih (u / 10) (by omega)
      refine ⟨by simp, fun b hb => ?_⟩
      rcases List.mem_append.1 hb with hb | hb
      · exact h1.2 b hb
      · rw [List.mem_singleton] at hb; rw [hb]; exact (Dg_ofNat (u % 10) (by omega)).1
theorem decDigits_dval (u : Nat) : dval (Lib.decDigits u) = u := by
  induction u using Nat.strongRecOn with
  | ind u ih =>
    rw [Lib.decDigits]
    split
    · rename_i h
      simp only [dval, dvalFrom_cons, dvalFrom_nil, (Dg_ofNat u h).2]
      omega
    · rename_i h
      have h1 := ih (u / 10) (by omega)
      unfold dval at h1
      unfold dval
      rw [dvalFrom_append, h1]
      simp only [dvalFrom_cons, dvalFrom_nil, (Dg_ofNat (u % 10) (by omega)).2]
      omega

theorem takeWhile_all {p : UInt8 → Bool} (l : List UInt8) (h : ∀ b ∈ l, p b = true) : l.takeWhile p = l := by
  induction l with
  | nil => rfl
  | cons b l ih => rw [List.takeWhile_cons, h b (by simp), if_pos rfl, ih (fun c hc => h c (by simp [hc]))]
theorem dropWhile_all {p : UInt8 → Bool} (l : List UInt8) (h : ∀ b ∈ l, p b = true) : l.dropWhile p = [] := by
  induction l with
  | nil => rfl
  | cons b l ih => rw [List.dropWhile_cons, h b (by simp), if_pos rfl, ih (fun c hc => h c (by simp [hc]))]
theorem takeWhile_stop {p : UInt8 → Bool} (l : List UInt8) (c : UInt8) (r : List UInt8) (h : ∀ b ∈ l, p b = true) (hc : p c = false) : (l ++ c :: r).takeWhile p = l := by
  induction l with
  | nil => simp [List.takeWhile_cons, hc]
  | cons b l ih => rw [List.cons_append, List.takeWhile_cons, h b (by simp), if_pos rfl, ih (fun d hd => h d (by simp [hd]))]
theorem dropWhile_stop {p : UInt8 → Bool} (l : List UInt8) (c : UInt8) (r : List UInt8) (h : ∀ b ∈ l, p b = true) (hc : p c = false) : (l ++ c :: r).dropWhile p = c :: r := by
  induction l with
  | nil => simp [List.dropWhile_cons, hc]
  | cons b l ih => rw [List.cons_append, List.dropWhile_cons, h b (by simp), if_pos rfl, ih (fun d hd => h d (by simp [hd]))]
theorem Dg.ne (b : UInt8) (h : Dg b) : (b.toNat != 47) = true := by unfold Dg at h; simp; omega

/-- A text without a slash. -/
theorem pz_one (l : List UInt8) (h : ∀ b ∈ l, b.toNat ≠ 47) : pz l = if Ds l then some (dval l, 1) else none := by
  unfold pz
  rw [dropWhile_all l (fun b hb => by simpa using h b hb)]
/-- A text whose first slash stands behind l. -/
theorem pz_two (l : List UInt8) (c : UInt8) (r : List UInt8) (h : ∀ b ∈ l, b.toNat ≠ 47) (hc : c.toNat = 47) :
    pz (l ++ c :: r) = if Ds l ∧ Ds r ∧ dval r ≠ 0 then some (dval l, dval r) else none := by
  unfold pz
  rw [dropWhile_stop l c r (fun b hb => by simpa using h b hb) (by simp [hc]), takeWhile_stop l c r (fun b hb => by simpa using h b hb) (by simp [hc])]
/-- What num.Parse sees: digits, then the rest. -/
theorem pz_digits (l r : List UInt8) (h : ∀ b ∈ l, Dg b) (hr : ∀ c r', r = c :: r' → ¬ Dg c) :
    pz (l ++ r) = if l = [] then none else match r with
      | [] => some (dval l, 1)
      | c :: r' => if c.toNat = 47 ∧ Ds r' ∧ dval r' ≠ 0 then some (dval l, dval r') else none := by
  have hn : ∀ b ∈ l, b.toNat ≠ 47 := fun b hb => by have := h b hb; unfold Dg at this; omega
  cases r with
  | nil =>
    rw [List.append_nil, pz_one l hn]
    by_cases hl : l = []
    · simp [hl, Ds]
    · simp only [hl, if_false, if_pos (show Ds l from ⟨hl, h⟩)]
  | cons c r' =>
    by_cases hc : c.toNat = 47
    · rw [pz_two l c r' hn hc]
      by_cases hl : l = []
      · simp [hl, Ds]
      · simp only [hl, hc, true_and, if_false, show Ds l from ⟨hl, h⟩]
    · simp only [hc, false_and, if_false, ite_self]
      have hd : ¬ Dg c := hr c r' rfl
      unfold pz
      split
      · rw [if_neg]
        intro hD
        exact hd (hD.2 c (by simp))
      · rename_i c' r2 hdr
        rw [if_neg]
        rintro ⟨hD, _⟩
        refine hd (hD.2 c ?_)
        have : ∀ l : List UInt8, (∀ b ∈ l, b.toNat ≠ 47) → c ∈ (l ++ c :: r').takeWhile (fun b => b.toNat != 47) := by
          intro l hl
          induction l with
          | nil => simp [List.takeWhile_cons, hc]
          | cons b l ih =>
            rw [List.cons_append, List.takeWhile_cons]
            have hb := hl b (by simp)
            simp only [bne_iff_ne, ne_eq, hb, not_false_eq_true, if_true, List.mem_cons]
            exact Or.inr (ih fun d hd => hl d (by simp [hd]))
        exact this l hn
theorem pz_pos (l : List UInt8) (p q : Nat) (h : pz l = some (p, q)) : q ≠ 0 := by
  unfold pz at h
  split at h
  · split at h
    · simp at h; omega
    · simp at h
  · split at h
    · rename_i h1
      simp at h
      omega
    · simp at h
/-- What Print wrote. -/
theorem pz_print_one (u : Nat) : pz (Lib.decDigits u) = some (u, 1) := by
  have h := decDigits_ds u
  rw [pz_one _ (fun b hb => by have := h.2 b hb; unfold Dg at this; omega), if_pos h, decDigits_dval]
theorem pz_print_two (u v : Nat) (hv : v ≠ 0) : pz (Lib.decDigits u ++ 47 :: Lib.decDigits v) = some (u, v) := by
  have h := decDigits_ds u
  have h' := decDigits_ds v
  rw [pz_two _ 47 _ (fun b hb => by have := h.2 b hb; unfold Dg at this; omega) (by decide), decDigits_dval, decDigits_dval, if_pos ⟨h, h', hv⟩]

/-- Where num.shaped stands behind the bytes l. -/
def Sh (l : List UInt8) (part : Nat) (zero : Bool) (sl : Nat) : Prop :=
  (sl = 0 ∧ (∀ b ∈ l, Dg b) ∧ part = l.length ∧ zero = decide (∀ b ∈ l, b.toNat = 48)) ∨
  (sl = 1 ∧ ∃ a c b, l = a ++ c :: b ∧ c.toNat = 47 ∧ a ≠ [] ∧ (∀ x ∈ a, Dg x) ∧ (∀ x ∈ b, Dg x) ∧ part = b.length ∧ zero = decide (∀ x ∈ b, x.toNat = 48))
theorem Sh.start : Sh [] 0 true 0 := Or.inl ⟨rfl, by simp, rfl, by simp⟩
theorem decide_snoc (l : List UInt8) (c : UInt8) : decide (∀ b ∈ l ++ [c], b.toNat = 48) = (decide (∀ b ∈ l, b.toNat = 48) && decide (c.toNat = 48)) := by
  rw [← Bool.decide_and]
  apply decide_eq_decide.2
  constructor
  · intro h; exact ⟨fun b hb => h b (by simp [hb]), h c (by simp)⟩
  · rintro ⟨h, k⟩ b hb
    rcases List.mem_append.1 hb with hb | hb
    · exact h b hb
    · rw [List.mem_singleton] at hb; rw [hb]; exact k
theorem all_snoc {l : List UInt8} {c : UInt8} (h : ∀ b ∈ l, Dg b) (hc : Dg c) : ∀ b ∈ l ++ [c], Dg b := fun b hb => by
  rcases List.mem_append.1 hb with hb | hb
  · exact h b hb
  · rw [List.mem_singleton] at hb; rw [hb]; exact hc
theorem Sh.dig {l : List UInt8} {p : Nat} {z : Bool} {s : Nat} (h : Sh l p z s) {c : UInt8} (hc : Dg c) : Sh (l ++ [c]) (p + 1) (z && decide (c.toNat = 48)) s := by
  rcases h with ⟨h1, h2, h3, h4⟩ | ⟨h1, a, d, b, h2, h3, h4, h5, h6, h7, h8⟩
  · refine Or.inl ⟨h1, all_snoc h2 hc, by simp [h3], ?_⟩
    rw [decide_snoc, h4]
  · refine Or.inr ⟨h1, a, d, b ++ [c], by simp [h2], h3, h4, h5, all_snoc h6 hc, by simp [h7], ?_⟩
    rw [decide_snoc, h8]
theorem Sh.slash {l : List UInt8} {p : Nat} {z : Bool} (h : Sh l p z 0) (hp : 0 < p) {c : UInt8} (hc : c.toNat = 47) : Sh (l ++ [c]) 0 true 1 := by
  rcases h with ⟨h1, h2, h3, h4⟩ | ⟨h1, _⟩
  · refine Or.inr ⟨rfl, l, c, [], rfl, hc, ?_, h2, by simp, rfl, by simp⟩
    intro e; rw [e] at h3; simp at h3; omega
  · omega
theorem dvalFrom_zero (n : Nat) (l : List UInt8) (hd : ∀ b ∈ l, Dg b) : dvalFrom n l = 0 ↔ n = 0 ∧ ∀ b ∈ l, b.toNat = 48 := by
  induction l generalizing n with
  | nil => rw [dvalFrom_nil]; simp
  | cons b l ih =>
    rw [dvalFrom_cons, ih _ (fun c hc => hd c (by simp [hc]))]
    have hb := hd b (by simp)
    unfold Dg at hb
    simp only [List.forall_mem_cons]
    constructor
    · rintro ⟨h1, h2⟩; exact ⟨by omega, by omega, h2⟩
    · rintro ⟨h1, h2, h3⟩; exact ⟨by omega, h3⟩
theorem dval_zero (l : List UInt8) (hd : ∀ b ∈ l, Dg b) : dval l = 0 ↔ ∀ b ∈ l, b.toNat = 48 := by
  unfold dval; rw [dvalFrom_zero 0 l hd]; simp
theorem digs_ne {l : List UInt8} (h : ∀ b ∈ l, Dg b) : ∀ b ∈ l, b.toNat ≠ 47 := fun b hb => by have := h b hb; unfold Dg at this; omega
theorem Sh.fin {l : List UInt8} {p : Nat} {z : Bool} {s : Nat} (h : Sh l p z s) : (pz l).isSome = (decide (0 < p) && (decide (s = 0) || !z)) := by
  rcases h with ⟨h1, h2, h3, h4⟩ | ⟨h1, a, d, b, h2, h3, h4, h5, h6, h7, h8⟩
  · rw [pz_one l (digs_ne h2)]
    by_cases hl : l = []
    · subst hl h3; simp [Ds]
    · have hp : 0 < p := by rw [h3]; exact List.length_pos_iff.2 hl
      rw [if_pos ⟨hl, h2⟩]
      simp [hp, h1]
  · rw [h2, pz_two a d b (digs_ne h5) h3]
    by_cases hb : b = []
    · subst hb h7; simp [Ds]
    · have hp : 0 < p := by rw [h7]; exact List.length_pos_iff.2 hb
      have hz := dval_zero b h6
      by_cases hz' : ∀ x ∈ b, x.toNat = 48
      · rw [if_neg (fun k => k.2.2 (hz.2 hz'))]
        rw [h8, decide_eq_true hz', h1]
        simp
      · rw [if_pos ⟨⟨h4, h5⟩, ⟨hb, h6⟩, fun k => hz' (hz.1 k)⟩]
        rw [h8, decide_eq_false hz', h1]
        simp [hp]
theorem Sh.bad {l : List UInt8} {p : Nat} {z : Bool} {s : Nat} (h : Sh l p z s) {c : UInt8} (hc : ¬ Dg c) (hs : ¬ (c.toNat = 47 ∧ 0 < p ∧ s = 0)) (r : List UInt8) : pz (l ++ c :: r) = none := by
  rcases h with ⟨h1, h2, h3, h4⟩ | ⟨h1, a, d, b, h2, h3, h4, h5, h6, h7, h8⟩
  · rw [pz_digits l (c :: r) h2 (fun c' r' e => by simp at e; rw [← e.1]; exact hc)]
    by_cases hl : l = []
    · rw [if_pos hl]
    · have hp : 0 < p := by rw [h3]; exact List.length_pos_iff.2 hl
      rw [if_neg hl]
      simp only
      rw [if_neg]
      rintro ⟨k, _⟩
      exact hs ⟨k, hp, h1⟩
  · rw [h2, List.append_assoc, List.cons_append, pz_two a d _ (digs_ne h5) h3, if_neg]
    rintro ⟨_, k, _⟩
    exact hc (k.2 c (by simp))
end Go.Proofs.YtmeldkceajnobaaDoor

namespace Go.Proofs.YtmeldkceajnobaaDoor

/-- A sign, and what follows it. -/
def neg (l : List UInt8) : Bool := decide (l.head?.map UInt8.toNat = some 45)
def body (l : List UInt8) : List UInt8 := if neg l then l.drop 1 else l
/-- The parsed rational. -/
def psQ (l : List UInt8) (p q : Nat) : Rat := Rat.divInt (if neg l then -(p : Int) else (p : Int)) (q : Int)
def psT (l : List UInt8) : Int := match pz (body l) with
  | none => 0
  | some (p, q) => if 200 < l.length then 0 else outT (psQ l p q)
def psL (l : List UInt8) : Int := match pz (body l) with
  | none => 0
  | some (p, q) => if 200 < l.length then 0 else outL (psQ l p q)
def psE (l : List UInt8) : Int := match pz (body l) with
  | none => 4
  | some (p, q) => if 200 < l.length then 3 else outE (psQ l p q)
/-- The printed form. -/
def prS (t l : Int) : List UInt8 := if l = 1 then Lib.itoa t else Lib.itoa t ++ 47 :: Lib.itoa l
def prT (t l : Int) : List UInt8 := if OkN t l then prS t l else []
def prE (t l : Int) : Int := if OkN t l then 0 else 1

theorem digs_head {l : List UInt8} (h : Ds l) (r : List UInt8) : neg (l ++ r) = false := by
  obtain ⟨h1, h2⟩ := h
  cases l with
  | nil => exact absurd rfl h1
  | cons b l =>
    have := h2 b (by simp)
    unfold Dg at this
    simp [neg]
    omega
theorem neg_minus (r : List UInt8) : neg (45 :: r) = true ∧ body (45 :: r) = r := by
  have h : neg (45 :: r) = true := by simp [neg]
  exact ⟨h, by unfold body; rw [h]; rfl⟩
theorem body_digs {l : List UInt8} (h : Ds l) (r : List UInt8) : body (l ++ r) = l ++ r := by
  unfold body; rw [digs_head h r]; rfl
theorem itoa_pos (t : Int) (h : 0 ≤ t) : Lib.itoa t = Lib.decDigits t.toNat := by unfold Lib.itoa; rw [if_neg (by omega)]
theorem itoa_min (t : Int) (h : t < 0) : Lib.itoa t = 45 :: Lib.decDigits t.natAbs := by unfold Lib.itoa; rw [if_pos h]
theorem pz_back (t l : Int) (hl : 1 ≤ l) : ∃ p : Nat, pz (body (prS t l)) = some (p, l.toNat) ∧ (if neg (prS t l) then -(p : Int) else (p : Int)) = t := by
  by_cases h1 : l = 1
  · have e : prS t l = Lib.itoa t := by unfold prS; rw [if_pos h1]
    rw [e, h1]
    by_cases ht : t < 0
    · rw [itoa_min t ht, (neg_minus _).1, (neg_minus _).2, pz_print_one]
      exact ⟨t.natAbs, rfl, by rw [if_pos rfl]; omega⟩
    · rw [itoa_pos t (by omega)]
      have hd := decDigits_ds t.toNat
      have h2 := digs_head hd []
      have h3 := body_digs hd []
      rw [List.append_nil] at h2 h3
      rw [h2, h3, pz_print_one]
      refine ⟨t.toNat, rfl, ?_⟩
      simp only [Bool.false_eq_true, if_false]
      omega
  · have e : prS t l = Lib.itoa t ++ 47 :: Lib.itoa l := by unfold prS; rw [if_neg h1]
    rw [e, itoa_pos l (by omega)]
    by_cases ht : t < 0
    · rw [itoa_min t ht, List.cons_append, (neg_minus _).1, (neg_minus _).2, pz_print_two _ _ (by omega)]
      exact ⟨t.natAbs, rfl, by rw [if_pos rfl]; omega⟩
    · rw [itoa_pos t (by omega)]
      have hd := decDigits_ds t.toNat
      rw [digs_head hd, body_digs hd, pz_print_two _ _ (by omega)]
      refine ⟨t.toNat, rfl, ?_⟩
      simp only [Bool.false_eq_true, if_false]
      omega
theorem prS_len (t l : Int) (h : OkN t l) : (prS t l).length ≤ 43 := by
  have h1 := Lib.itoa_length_le t (by have := h.2.2.2.1; omega) (by have := h.2.2.1; omega)
  have h2 := Lib.itoa_length_le l (by have := h.1; omega) (by have := h.2.1; omega)
  unfold prS
  split
  · omega
  · rw [List.length_append, List.length_cons]; omega
theorem out_val' {t l : Int} (h : OkN t l) : outT (Rat.divInt t l) = t ∧ outL (Rat.divInt t l) = l ∧ outE (Rat.divInt t l) = 0 := by
  have a := num_sz h
  have hf : Fits (Rat.divInt t l) := by
    unfold Fits
    rw [a.2.1, a.2.2]
    exact ⟨h.2.2.2.1, h.2.2.1, h.2.1⟩
  unfold outT outL outE
  rw [if_pos hf, if_pos hf, if_pos hf]
  exact ⟨a.2.1, a.2.2, rfl⟩
/-- Parsing a printed number yields the number. -/
theorem parse_print (t l : Int) (h : OkN t l) : psT (prS t l) = t ∧ psL (prS t l) = l ∧ psE (prS t l) = 0 := by
  obtain ⟨p, h1, h2⟩ := pz_back t l h.1
  have hl := prS_len t l h
  have hq : psQ (prS t l) p l.toNat = Rat.divInt t l := by
    unfold psQ
    rw [h2, show ((l.toNat : Nat) : Int) = l by have := h.1; omega]
  have h3 := out_val' h
  unfold psT psL psE
  rw [h1]
  simp only [if_neg (show ¬ 200 < (prS t l).length by omega), hq]
  exact h3
end Go.Proofs.YtmeldkceajnobaaDoor

namespace Go.Proofs.YtmeldkceajnobaaDoor
open Go.RowKit

def itoaRen : Go.Shelf.Ren := ⟨fun | 171 => 12 | 243 => 36 | 246 => 56 | 283 => 76 | 284 => 77 | 285 => 78 | 286 => 79 | 129 => 90 | 317 => 89 | 318 => 91 | 319 => 92 | 320 => 93 | 337 => 95 | 338 => 96 | n => n, fun | 3 => 3 | 9 => 9 | 2 => 2 | 4 => 4 | 171 => 102 | 0 => 0 | 53 => 71 | 37 => 83 | 5 => 5 | 173 => 105 | 212 => 118 | 51 => 72 | 20 => 20 | 213 => 119 | 46 => 73 | 232 => 124 | 233 => 125 | n => n, fun | 17 => 0 | 18 => 2 | 19 => 3 | n => n⟩
theorem itoaLays : Go.Proofs.LaysM.n171 Tryd.prog itoaRen := {
  mixed := by kernel_rfl
  f129 := Tryd.func90.trans (congrArg some (by kernel_rfl))
  f171 := Tryd.func12.trans (congrArg some (by kernel_rfl))
  f243 := Tryd.func36.trans (congrArg some (by kernel_rfl))
  f246 := Tryd.func56.trans (congrArg some (by kernel_rfl))
  f283 := Tryd.func76.trans (congrArg some (by kernel_rfl))
  f284 := Tryd.func77.trans (congrArg some (by kernel_rfl))
  f285 := Tryd.func78.trans (congrArg some (by kernel_rfl))
  f286 := Tryd.func79.trans (congrArg some (by kernel_rfl))
  f317 := Tryd.func89.trans (congrArg some (by kernel_rfl))
  f318 := Tryd.func91.trans (congrArg some (by kernel_rfl))
  f319 := Tryd.func92.trans (congrArg some (by kernel_rfl))
  f320 := Tryd.func93.trans (congrArg some (by kernel_rfl))
  f337 := Tryd.func95.trans (congrArg some (by kernel_rfl))
  f338 := Tryd.func96.trans (congrArg some (by kernel_rfl))
  t0 := Tryd.underlying0
  a0 := Tryd.isAgg0
  z0 := Tryd.sizeOf0
  v0 := Tryd.zeroValue0
  t2 := Tryd.underlying2
  a2 := Tryd.isAgg2
  z2 := Tryd.sizeOf2
  v2 := Tryd.zeroValue2
  t3 := Tryd.underlying3
  a3 := Tryd.isAgg3
  z3 := Tryd.sizeOf3
  v3 := Tryd.zeroValue3
  t4 := Tryd.underlying4
  a4 := Tryd.isAgg4
  z4 := Tryd.sizeOf4
  v4 := Tryd.zeroValue4
  t5 := Tryd.underlying5
  a5 := Tryd.isAgg5
  z5 := Tryd.sizeOf5
  v5 := Tryd.zeroValue5
  t9 := Tryd.underlying9
  a9 := Tryd.isAgg9
  z9 := Tryd.sizeOf9
  v9 := Tryd.zeroValue9
  t20 := Tryd.underlying20
  a20 := Tryd.isAgg20
  z20 := Tryd.sizeOf20
  v20 := Tryd.zeroValue20
  t37 := Tryd.underlying83
  a37 := Tryd.isAgg83
  z37 := Tryd.sizeOf83
  v37 := Tryd.zeroValue83
  t46 := Tryd.underlying73
  a46 := Tryd.isAgg73
  z46 := Tryd.sizeOf73
  v46 := Tryd.zeroValue73
  t51 := Tryd.underlying72
  a51 := Tryd.isAgg72
  z51 := Tryd.sizeOf72
  v51 := Tryd.zeroValue72
  t53 := Tryd.underlying71
  a53 := Tryd.isAgg71
  z53 := Tryd.sizeOf71
  v53 := Tryd.zeroValue71
  t171 := Tryd.underlying102
  a171 := Tryd.isAgg102
  z171 := Tryd.sizeOf102
  v171 := Tryd.zeroValue102
  t173 := Tryd.underlying105
  a173 := Tryd.isAgg105
  z173 := Tryd.sizeOf105
  v173 := Tryd.zeroValue105
  t212 := Tryd.underlying118
  a212 := Tryd.isAgg118
  z212 := Tryd.sizeOf118
  v212 := Tryd.zeroValue118
  t213 := Tryd.underlying119
  a213 := Tryd.isAgg119
  z213 := Tryd.sizeOf119
  t232 := Tryd.underlying124
  a232 := Tryd.isAgg124
  z232 := Tryd.sizeOf124
  v232 := Tryd.zeroValue124
  t233 := Tryd.underlying125
  a233 := Tryd.isAgg125
  z233 := Tryd.sizeOf125
  v233 := Tryd.zeroValue125
  g17 := by kernel_rfl
  g18 := by kernel_rfl
  g19 := by kernel_rfl
  i0 := by kernel_rfl
  i2 := by kernel_rfl
  i3 := by kernel_rfl
  i4 := by kernel_rfl
  i5 := by kernel_rfl
  i9 := by kernel_rfl
  i20 := by kernel_rfl
  i37 := by kernel_rfl
  i46 := by kernel_rfl
  i51 := by kernel_rfl
  i53 := by kernel_rfl
  i171 := by kernel_rfl
  i173 := by kernel_rfl
  i212 := by kernel_rfl
  i232 := by kernel_rfl
  i233 := by kernel_rfl
  m17 := by kernel_rfl
  m18 := by kernel_rfl
  m19 := by kernel_rfl }

theorem below_grow (w : World) (q : Nat) (os : Array Obj) : Below w.heap.size w (Go.Sort.grow (w.drewN q) os) :=
  ⟨rfl, rfl, rfl, by simp [Go.Sort.grow], fun i hi => by
    show ((w.drewN q).heap ++ os)[i]? = _
    rw [Array.getElem?_append_left (by show i < w.heap.size; omega)]
    rfl⟩
/-- The table that strconv.Itoa reads. -/
def P10 (w : World) : Prop := Lib.TabIs Tryd.prog w "internal/strconv.uint64pow10" .u64 Lib.pow10Tab
theorem P10.below {w w' : World} (h : P10 w) (hb : Below w.heap.size w w') : P10 w' := Lib.tabBelow_of_tabIs h w' hb
theorem itoa_calls (n : Int) (w : World) (h0 : -9223372036854775808 ≤ n) (h1 : n ≤ 9223372036854775807) (htab : P10 w) :
    Calls Tryd.prog 12 #[.int .i64 n] w fun e w' => e = .returned (.string ⟨(Lib.itoa n).toArray⟩) ∧ Below w.heap.size w w' :=
  (Any.strconv_Itoa itoaLays n h0 h1 w htab).mono (fun e w' h => by
    obtain ⟨h1, k, os, rfl⟩ := h
    exact ⟨h1, below_grow w k os⟩)
end Go.Proofs.YtmeldkceajnobaaDoor

namespace Go.Proofs.YtmeldkceajnobaaDoor
open Go.RowKit

theorem ba_app (a b : List UInt8) : (⟨a.toArray⟩ : ByteArray) ++ ⟨b.toArray⟩ = ⟨(a ++ b).toArray⟩ := by
  apply ByteArray.ext
  simp

set_option maxHeartbeats 40000000 in
set_option maxRecDepth 100000 in
theorem nprint_calls (t l : Int) (w : World) (h0 : -9223372036854775808 ≤ t) (h1 : t ≤ 9223372036854775807) (h2 : -9223372036854775808 ≤ l) (h3 : l ≤ 9223372036854775807) (htab : P10 w) :
    Calls Tryd.prog 5 #[.agg #[.int .i64 t, .int .i64 l]] w fun e w' => e = .returned (.tuple #[.string ⟨(prT t l).toArray⟩, .int .i64 (prE t l)]) ∧ Below w.heap.size w w' := by
  unfold prT prE
  by_cases hv : OkN t l
  · rw [if_pos hv, if_pos hv]
    replace hv := Lib.hid hv
    have HPL : Hid (l ≠ 1 → prS t l = Lib.itoa t ++ 47 :: Lib.itoa l) := Lib.hid (fun h => by unfold prS; rw [if_neg h])
    have HP1 : Hid (l = 1 → prS t l = Lib.itoa t) := Lib.hid (fun h => by unfold prS; rw [if_pos h])
    generalize prS t l = oS at *
    go_enter Tryd.func5, Tryd.ntmps5
    go_wp2_with fail
    have B0 := bl_alloc (Below.refl w.heap.size w) (.cells #[.int .i64 t, .int .i64 l] 23)
    have a1 : (w.alloc (.cells #[.int .i64 t, .int .i64 l] 23)).heap[w.heap.size]? = some (.cells #[.int .i64 t, .int .i64 l] 23 (0, 0)) := blk_at _ rfl
    have T0 := htab.below B0
    generalize w.alloc (.cells #[.int .i64 t, .int .i64 l] 23) = W0 at *
    refine (valid_calls t l _ h0 h1 h2 h3).mono ?_
    rintro e w1 ⟨rfl, hB1⟩
    rw [decide_eq_true hv.out]
    replace a1 := blk_below a1 hB1
    replace T0 := T0.below hB1
    replace B0 := bl_then B0 hB1
    clear hB1
    obtain ⟨p1, p2, p3, p4⟩ := bx2 a1
    go_wp2_with fail
    refine (itoa_calls t _ h0 h1 T0).mono ?_
    rintro e w2 ⟨rfl, hB2⟩
    replace a1 := blk_below a1 hB2
    replace T0 := T0.below hB2
    replace B0 := bl_then B0 hB2
    clear hB2 p1 p2 p3 p4
    obtain ⟨p1, p2, p3, p4⟩ := bx2 a1
    by_cases hl : l = 1
    · have E := HP1.out hl
      subst hl
      subst E
      go_wp2
      go_ret2
      exact ⟨rfl, B0⟩
    · have E := Lib.hid (HPL.out hl)
      have hn : (l != 1) = true := by simpa using hl
      go_wp2_with fail
      refine (itoa_calls l _ h2 h3 T0).mono ?_
      rintro e w3 ⟨rfl, hB3⟩
      replace B0 := bl_then B0 hB3
      clear hB3 p1 p2 p3 p4 a1
      have L1 := Lib.itoa_length_le l (by omega) (by omega)
      have L2 := Lib.itoa_length_le t (by omega) (by omega)
      have x1 : ¬ 9223372036854775807 < 1 + (Lib.itoa l).length := by omega
      have x2 : ¬ 9223372036854775807 < (Lib.itoa t).length + (1 + (Lib.itoa l).length) := by omega
      clear L1 L2
      go_wp2
      go_ret2
      refine ⟨?_, B0⟩
      rw [E.out]
      have e1 := ba_app [47] (Lib.itoa l)
      have e2 := ba_app (Lib.itoa t) ([47] ++ Lib.itoa l)
      rw [show Lib.itoa t ++ 47 :: Lib.itoa l = Lib.itoa t ++ ([47] ++ Lib.itoa l) from rfl, ← e2, ← e1]
      rfl
  · rw [if_neg hv, if_neg hv]
    have hd : decide (OkN t l) = false := decide_eq_false hv
    clear hv
    go_enter Tryd.func5, Tryd.ntmps5
    go_wp2_with fail
    have B0 := bl_alloc (Below.refl w.heap.size w) (.cells #[.int .i64 t, .int .i64 l] 23)
    have a1 : (w.alloc (.cells #[.int .i64 t, .int .i64 l] 23)).heap[w.heap.size]? = some (.cells #[.int .i64 t, .int .i64 l] 23 (0, 0)) := blk_at _ rfl
    generalize w.alloc (.cells #[.int .i64 t, .int .i64 l] 23) = W0 at *
    refine (valid_calls t l _ h0 h1 h2 h3).mono ?_
    rintro e w1 ⟨rfl, hB1⟩
    rw [hd]
    replace B0 := bl_then B0 hB1
    clear hB1 hd a1
    go_wp2
    go_ret2
    exact ⟨rfl, B0⟩
end Go.Proofs.YtmeldkceajnobaaDoor
