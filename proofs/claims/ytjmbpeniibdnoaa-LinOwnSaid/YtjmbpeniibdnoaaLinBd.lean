/- Sizes of echelon forms: plain law. -/
import Derived.Test.YtjmbpeniibdnoaaLinEch
set_option linter.unusedVariables false
set_option linter.unusedSimpArgs false
namespace Go.Proofs.Ytjmbpeniibdnoaa

/-- An integer vector as a vector. -/
def iv (z : Nat → Int) : Vc := fun k => (z k : Rat)
/-- The bound of the entries behind t pivots, in bits. -/
def eB : Nat → Nat
  | 0 => 0
  | t + 1 => 2 * eB t + 70
/-- All entries are small. -/
def Sbd (b : Nat) (z : Nat → Int) : Prop := ∀ k, (z k).natAbs ≤ 2 ^ b
/-- Integer rows with the common pivot d. -/
def Ip (d : Int) (E : List (Nat → Int)) (T : List Nat) : Prop := d ≠ 0 ∧ E.length = T.length ∧ T.Nodup ∧ ∀ e s, (e, s) ∈ E.zip T → e s = d ∧ ∀ t ∈ T, t ≠ s → e t = 0
/-- c times d, reduced by the rows. -/
def red (d : Int) : List (Nat → Int) → List Nat → (Nat → Int) → (Nat → Int) → (Nat → Int)
  | e :: E, t :: T, c, r => red d E T c (fun k => r k - c t * e k)
  | _, _, _, r => r
theorem red_val (d : Int) (E : List (Nat → Int)) (T : List Nat) (c r : Nat → Int) (s : Nat) (h : ∀ e t, (e, t) ∈ E.zip T → e s = 0) : red d E T c r s = r s := by
  induction E generalizing T r with
  | nil => rfl
  | cons e E ih => cases T with
    | nil => rfl
    | cons t T =>
      unfold red
      rw [ih T _ fun e' t' h' => h e' t' (by rw [List.zip_cons_cons]; exact List.mem_cons_of_mem _ h')]
      have := h e t (by simp)
      simp only [this]
      omega
theorem red_piv (d : Int) (E : List (Nat → Int)) (T : List Nat) (c r : Nat → Int) (s : Nat) (hl : E.length = T.length) (hn : T.Nodup) (hs : s ∈ T) (h : ∀ e t, (e, t) ∈ E.zip T → if t = s then e s = d else e s = 0) : red d E T c r s = r s - c s * d := by
  induction E generalizing T r with
  | nil => cases T with
    | nil => simp at hs
    | cons _ _ => simp at hl
  | cons e E ih => cases T with
    | nil => simp at hs
    | cons t T =>
      rw [List.nodup_cons] at hn
      unfold red
      by_cases e1 : t = s
      · subst e1
        rw [red_val]
        · have := h e t (by simp)
          rw [if_pos rfl] at this
          simp only [this]
        · intro e' t' h'
          have h2 := h e' t' (by rw [List.zip_cons_cons]; exact List.mem_cons_of_mem _ h')
          have h3 : t' ∈ T := (List.of_mem_zip h').2
          rw [if_neg (fun k : t' = t => hn.1 (k ▸ h3))] at h2
          exact h2
      · have hs' : s ∈ T := by
          rcases List.mem_cons.1 hs with h | h
          · exact absurd h.symm e1
          · exact h
        rw [ih T _ (by simpa using hl) hn.2 hs' fun e' t' h' => h e' t' (by rw [List.zip_cons_cons]; exact List.mem_cons_of_mem _ h')]
        have := h e t (by simp)
        rw [if_neg e1] at this
        simp only [this]
        omega
theorem abs_sub_mul (x y z : Int) : (x - y * z).natAbs ≤ x.natAbs + y.natAbs * z.natAbs := by
  have h := Int.natAbs_sub_le x (y * z)
  rw [Int.natAbs_mul] at h
  exact h
theorem red_bd (d : Int) (E : List (Nat → Int)) (T : List Nat) (c r : Nat → Int) (b N : Nat) (hc : Sbd 60 c) (hE : ∀ e ∈ E, Sbd b e) (hr : ∀ k, (r k).natAbs ≤ N * 2 ^ (b + 60)) :
    ∀ k, (red d E T c r k).natAbs ≤ (N + E.length) * 2 ^ (b + 60) := by
  induction E generalizing T r N with
  | nil => intro k; simp only [red, List.length_nil, Nat.add_zero]; exact hr k
  | cons e E ih => cases T with
    | nil => intro k; simp only [red]; exact Nat.le_trans (hr k) (Nat.mul_le_mul_right _ (by omega))
    | cons t T =>
      intro k
      have h1 : ∀ k, (r k - c t * e k).natAbs ≤ (N + 1) * 2 ^ (b + 60) := fun k => by
        have h2 := abs_sub_mul (r k) (c t) (e k)
        have h3 : (c t).natAbs * (e k).natAbs ≤ 2 ^ 60 * 2 ^ b := Nat.mul_le_mul (hc t) (hE e (by simp) k)
        have h4 := hr k
        rw [← Nat.pow_add, Nat.add_comm 60 b] at h3
        have : (N + 1) * 2 ^ (b + 60) = N * 2 ^ (b + 60) + 2 ^ (b + 60) := by rw [Nat.add_mul, Nat.one_mul]
        omega
      have := ih T _ (N + 1) (fun e' he' => hE e' (by simp [he'])) h1 k
      unfold red
      rw [show N + (e :: E).length = N + 1 + E.length by simp; omega]
      exact this
theorem red_sp (d : Int) (E : List (Nat → Int)) (T : List Nat) (c r : Nat → Int) (L : List Vc) (hE : ∀ e ∈ E, Sp L (iv e)) (hr : Sp L (iv r)) : Sp L (iv (red d E T c r)) := by
  induction E generalizing T r with
  | nil => simp only [red]; exact hr
  | cons e E ih => cases T with
    | nil => simp only [red]; exact hr
    | cons t T =>
      unfold red
      refine ih T _ (fun e' he' => hE e' (by simp [he'])) ?_
      have h := hr.add (hE e (by simp)) (-(c t : Rat))
      have e1 : vadd (iv r) (-(c t : Rat)) (iv e) = iv (fun k => r k - c t * e k) := by
        funext k; simp only [vadd, iv, Rat.intCast_sub, Rat.intCast_mul]; grind
      rw [e1] at h; exact h

theorem sub_len {S T : List Nat} (hn : T.Nodup) (h : ∀ t ∈ T, t ∈ S) : T.length ≤ S.length := by
  induction T generalizing S with
  | nil => simp
  | cons t T ih =>
    rw [List.nodup_cons] at hn
    have h1 := h t (by simp)
    have h2 := ih (S := S.erase t) hn.2 fun u hu => by
      have := h u (by simp [hu])
      exact (List.mem_erase_of_ne (fun e : u = t => hn.1 (e ▸ hu))).2 this
    rw [List.length_erase_of_mem h1] at h2
    have : 0 < S.length := List.length_pos_of_mem h1
    rw [List.length_cons]; omega
/-- The row that is added, and what becomes of the others. -/
def nrow (d : Int) (c : Nat → Int) : Nat → Int := fun k => d * c k
def others (c : Nat → Int) (s : Nat) (E : List (Nat → Int)) : List (Nat → Int) := E.map fun e k => c s * e k - e s * c k
theorem zip_snoc {α β : Type} {E : List α} {T : List β} {e : α} {t : β} (h : E.length = T.length) {p : α × β} (hp : p ∈ (E ++ [e]).zip (T ++ [t])) : p ∈ E.zip T ∨ p = (e, t) := by
  rw [List.zip_append h] at hp
  rcases List.mem_append.1 hp with hp | hp
  · exact Or.inl hp
  · exact Or.inr (by simpa using hp)
theorem zip_map {α γ β : Type} (f : α → γ) {E : List α} {T : List β} {e : γ} {t : β} (hp : (e, t) ∈ (E.map f).zip T) : ∃ e', (e', t) ∈ E.zip T ∧ e = f e' := by
  induction E generalizing T with
  | nil => simp at hp
  | cons a E ih => cases T with
    | nil => simp at hp
    | cons u T =>
      rw [List.map_cons, List.zip_cons_cons, List.mem_cons] at hp
      rcases hp with hp | hp
      · rw [Prod.mk.injEq] at hp
        exact ⟨a, by simp [hp.2], hp.1⟩
      · obtain ⟨e', h1, h2⟩ := ih hp
        exact ⟨e', by rw [List.zip_cons_cons]; exact List.mem_cons_of_mem _ h1, h2⟩
theorem Ip.step {d : Int} {E : List (Nat → Int)} {T : List Nat} (h : Ip d E T) {c : Nat → Int} (hc : ∀ t ∈ T, c t = 0) {s : Nat} (hs : c s ≠ 0) :
    Ip (c s * d) (others c s E ++ [nrow d c]) (T ++ [s]) := by
  obtain ⟨h1, h2, h3, h4⟩ := h
  have hsT : s ∉ T := fun k => hs (hc s k)
  refine ⟨Int.mul_ne_zero hs h1, by simp [others, h2], ?_, ?_⟩
  · rw [List.nodup_append]
    refine ⟨h3, by simp, fun a ha b hb => ?_⟩
    rw [List.mem_singleton] at hb
    rw [hb]; intro e; exact hsT (e ▸ ha)
  · intro e t hm
    rcases zip_snoc (by simp [others, h2]) hm with hm | hm
    · obtain ⟨e', h5, rfl⟩ := zip_map _ hm
      obtain ⟨h6, h7⟩ := h4 e' t h5
      have ht : t ∈ T := (List.of_mem_zip h5).2
      refine ⟨by simp only [h6, hc t ht]; omega, fun u hu hn => ?_⟩
      rcases List.mem_append.1 hu with hu | hu
      · simp only [h7 u hu hn, hc u hu]; omega
      · rw [List.mem_singleton] at hu
        rw [hu]; show c s * e' s - e' s * c s = 0; rw [Int.mul_comm]; omega
    · rw [Prod.mk.injEq] at hm
      obtain ⟨rfl, rfl⟩ := hm
      refine ⟨by simp only [nrow]; rw [Int.mul_comm], fun u hu hn => ?_⟩
      rcases List.mem_append.1 hu with hu | hu
      · simp only [nrow, hc u hu]; omega
      · rw [List.mem_singleton] at hu; exact absurd hu hn

theorem Sbd.mono {b b' : Nat} {z : Nat → Int} (h : Sbd b z) (e : b ≤ b') : Sbd b' z := fun k => Nat.le_trans (h k) (Nat.pow_le_pow_right (by decide) e)
theorem others_sb {b : Nat} {c : Nat → Int} {s : Nat} {E : List (Nat → Int)} (hE : ∀ e ∈ E, Sbd b e) (hc : Sbd (b + 64) c) : ∀ e ∈ others c s E, Sbd (2 * b + 70) e := by
  intro e he k
  obtain ⟨e', h1, rfl⟩ := List.mem_map.1 he
  have h2 := Int.natAbs_sub_le (c s * e' k) (e' s * c k)
  rw [Int.natAbs_mul, Int.natAbs_mul] at h2
  have h3 : (c s).natAbs * (e' k).natAbs ≤ 2 ^ (b + 64) * 2 ^ b := Nat.mul_le_mul (hc s) (hE e' h1 k)
  have h4 : (e' s).natAbs * (c k).natAbs ≤ 2 ^ b * 2 ^ (b + 64) := Nat.mul_le_mul (hE e' h1 s) (hc k)
  rw [← Nat.pow_add] at h3 h4
  have h5 : 2 ^ (b + 64 + b) ≤ 2 ^ (2 * b + 64) := Nat.pow_le_pow_right (by decide) (by omega)
  have h6 : 2 ^ (b + (b + 64)) ≤ 2 ^ (2 * b + 64) := Nat.pow_le_pow_right (by decide) (by omega)
  have h7 : 2 ^ (2 * b + 64) + 2 ^ (2 * b + 64) ≤ 2 ^ (2 * b + 70) := by
    rw [← Nat.two_mul, ← Nat.pow_succ']
    exact Nat.pow_le_pow_right (by decide) (by omega)
  show (c s * e' k - e' s * c k).natAbs ≤ _
  omega
theorem nrow_sb {b : Nat} {c : Nat → Int} {d : Int} (hd : d.natAbs ≤ 2 ^ b) (hc : Sbd (b + 64) c) : Sbd (2 * b + 70) (nrow d c) := by
  intro k
  show (d * c k).natAbs ≤ _
  rw [Int.natAbs_mul]
  have h1 : d.natAbs * (c k).natAbs ≤ 2 ^ b * 2 ^ (b + 64) := Nat.mul_le_mul hd (hc k)
  rw [← Nat.pow_add] at h1
  exact Nat.le_trans h1 (Nat.pow_le_pow_right (by decide) (by omega))
theorem iv_lin {L : List Vc} {x y : Nat → Int} (hx : Sp L (iv x)) (hy : Sp L (iv y)) (a b : Int) : Sp L (iv fun k => a * x k - b * y k) := by
  have h := hx.lin hy (a : Rat) (-(b : Rat))
  have e : (fun k => (a : Rat) * iv x k + -(b : Rat) * iv y k) = iv fun k => a * x k - b * y k := by
    funext k; simp only [iv, Rat.intCast_sub, Rat.intCast_mul]; grind
  rw [e] at h; exact h
theorem iv_div {L : List Vc} {x : Nat → Int} {a : Int} (ha : a ≠ 0) (h : Sp L (iv fun k => a * x k)) : Sp L (iv x) := by
  have h1 := h.smul (1 / (a : Rat))
  have ha' : (a : Rat) ≠ 0 := fun e => ha (Rat.intCast_eq_zero_iff.1 e)
  have e : (fun k => 1 / (a : Rat) * iv (fun k => a * x k) k) = iv x := by
    funext k; simp only [iv, Rat.intCast_mul]
    grind
  rw [e] at h1; exact h1

/-- What is built over the rows read so far. -/
def Bu (S : List Nat) (C : List (Nat → Int)) (d : Int) (E : List (Nat → Int)) (T : List Nat) : Prop :=
  Ip d E T ∧ (∀ t ∈ T, t ∈ S) ∧ (∀ e ∈ E, Sbd (eB T.length) e) ∧ d.natAbs ≤ 2 ^ eB T.length ∧ (∀ e ∈ E, Sp (C.map iv) (iv e)) ∧ ∀ c ∈ C, Sp (E.map iv) (iv c)
theorem iv_eq {x y : Nat → Int} (h : iv x = iv y) : x = y := by
  funext k
  have := congrFun h k
  simp only [iv] at this
  exact Rat.intCast_inj.1 this
theorem iv_self (r : Nat → Int) : (iv fun k => r k - r k) = vz := by funext k; simp [iv, vz]
theorem build {R : List Vc} {S : List Nat} (h : Shp R S) (h8 : S.length ≤ 8) (C : List (Nat → Int)) (hC : ∀ c ∈ C, Sbd 60 c) (hs : ∀ c ∈ C, Sp R (iv c)) : ∃ d E T, Bu S C d E T := by
  induction C with
  | nil => exact ⟨1, [], [], ⟨by decide, rfl, by simp, by simp⟩, by simp, by simp, by decide, by simp, by simp⟩
  | cons c C ih =>
    obtain ⟨d, E, T, h1, h2, h3, h4, h5, h6⟩ := ih (fun a ha => hC a (by simp [ha])) (fun a ha => hs a (by simp [ha]))
    have hT : T.length ≤ 8 := Nat.le_trans (sub_len h1.2.2.1 h2) h8
    have hEl : E.length ≤ 8 := by rw [h1.2.1]; exact hT
    have h5' : ∀ e ∈ E, Sp ((c :: C).map iv) (iv e) := fun e he => (h5 e he).skip _
    -- the reduced row
    have r0 : ∀ t ∈ T, red d E T c (nrow d c) t = 0 := fun t ht => by
      rw [red_piv d E T c (nrow d c) t h1.2.1 h1.2.2.1 ht fun e u hu => ?_]
      · show d * c t - c t * d = 0
        rw [Int.mul_comm]; omega
      · obtain ⟨k1, k2⟩ := h1.2.2.2 e u hu
        split
        · rename_i e1; rw [← e1]; exact k1
        · rename_i e1; exact k2 t ht (fun k => e1 k.symm)
    have rc : Sp ((c :: C).map iv) (iv (red d E T c (nrow d c))) := by
      refine red_sp d E T c _ _ h5' ?_
      have := (Sp.head (iv c) (C.map iv)).smul (d : Rat)
      have e : (fun k => (d : Rat) * iv c k) = iv (nrow d c) := by funext k; simp only [iv, nrow, Rat.intCast_mul]
      rw [e] at this; exact this
    have rb : Sbd (eB T.length + 64) (red d E T c (nrow d c)) := fun k => by
      have h7 := red_bd d E T c (nrow d c) (eB T.length) 1 (hC c (by simp)) h3 (fun k => by
        show (d * c k).natAbs ≤ _
        rw [Int.natAbs_mul, Nat.one_mul, Nat.pow_add]
        exact Nat.mul_le_mul h4 (hC c (by simp) k)) k
      have h8 : (1 + E.length) * 2 ^ (eB T.length + 60) ≤ 2 ^ 4 * 2 ^ (eB T.length + 60) := Nat.mul_le_mul_right _ (by omega)
      rw [← Nat.pow_add] at h8
      exact Nat.le_trans h7 (Nat.le_trans h8 (Nat.pow_le_pow_right (by decide) (by omega)))
    have rv : Sp (E.map iv) (iv fun k => d * c k - red d E T c (nrow d c) k) := by
      have : ∀ (E' : List (Nat → Int)) (T' : List Nat) (r : Nat → Int), (∀ e ∈ E', e ∈ E) → Sp (E.map iv) (iv fun k => r k - red d E' T' c r k) := by
        intro E'
        induction E' with
        | nil => intro T' r _; simp only [red]; rw [iv_self]; exact Sp.zero _
        | cons e E' ih2 =>
          intro T' r hE
          cases T' with
          | nil => simp only [red]; rw [iv_self]; exact Sp.zero _
          | cons t T' =>
            simp only [red]
            have h7 := ih2 T' (fun k => r k - c t * e k) (fun a ha => hE a (by simp [ha]))
            have h8 := h7.add (Sp.mem (List.mem_map_of_mem (f := iv) (hE e (by simp)))) (c t : Rat)
            have e1 : vadd (iv fun k => r k - c t * e k - red d E' T' c (fun k => r k - c t * e k) k) (c t : Rat) (iv e) = iv fun k => r k - red d E' T' c (fun k => r k - c t * e k) k := by
              funext k; simp only [vadd, iv, Rat.intCast_sub, Rat.intCast_mul]; grind
            rw [e1] at h8; exact h8
      exact this E T (nrow d c) fun _ h => h
    generalize red d E T c (nrow d c) = r at *
    by_cases hz : iv r = vz
    · refine ⟨d, E, T, h1, h2, h3, h4, h5', fun a ha => ?_⟩
      rcases List.mem_cons.1 ha with rfl | ha
      · refine iv_div h1.1 ?_
        have e : (iv fun k => d * a k - r k) = iv fun k => d * a k := by
          funext k
          have := congrFun hz k
          simp only [iv, vz] at this
          simp only [iv, Rat.intCast_sub, this]
          grind
        rw [e] at rv; exact rv
      · exact h6 a ha
    · have rR : Sp R (iv r) := Sp.trans (L := (c :: C).map iv) (fun a ha => by
        obtain ⟨x, hx, rfl⟩ := List.mem_map.1 ha
        exact hs x hx) rc
      have : ∃ s ∈ S, r s ≠ 0 := Classical.byContradiction fun hn => hz (h.vanish rR fun s hs' => by
        have : r s = 0 := Classical.byContradiction fun k => hn ⟨s, hs', k⟩
        simp [iv, this])
      obtain ⟨s, hsS, hrs⟩ := this
      have hl : (T ++ [s]).length = T.length + 1 := by simp
      have e2 : eB (T.length + 1) = 2 * eB T.length + 70 := rfl
      have hE' : ∀ e ∈ others r s E ++ [nrow d r], Sbd (2 * eB T.length + 70) e := fun e he => by
        rcases List.mem_append.1 he with he | he
        · exact others_sb h3 rb e he
        · rw [List.mem_singleton] at he; rw [he]; exact nrow_sb h4 rb
      refine ⟨r s * d, others r s E ++ [nrow d r], T ++ [s], h1.step r0 hrs, ?_, ?_, ?_, ?_, ?_⟩
      · intro t ht
        rcases List.mem_append.1 ht with ht | ht
        · exact h2 t ht
        · rw [List.mem_singleton] at ht; rw [ht]; exact hsS
      · rw [hl, e2]; exact hE'
      · rw [hl, e2, Int.mul_comm]
        exact nrow_sb h4 rb s
      · intro e he
        rcases List.mem_append.1 he with he | he
        · obtain ⟨e', k1, rfl⟩ := List.mem_map.1 he
          exact iv_lin (h5' e' k1) rc (r s) (e' s)
        · rw [List.mem_singleton] at he
          rw [he]
          have := rc.smul (d : Rat)
          have e : (fun k => (d : Rat) * iv r k) = iv (nrow d r) := by funext k; simp only [iv, nrow, Rat.intCast_mul]
          rw [e] at this; exact this
      · -- the old rows are combinations of the new ones
        have n1 : Sp ((others r s E ++ [nrow d r]).map iv) (iv r) := by
          refine iv_div h1.1 ?_
          exact Sp.mem (by rw [List.map_append]; exact List.mem_append_right _ (List.mem_singleton.2 rfl))
        have n2 : ∀ e ∈ E, Sp ((others r s E ++ [nrow d r]).map iv) (iv e) := fun e he => by
          refine iv_div hrs ?_
          have k1 : Sp ((others r s E ++ [nrow d r]).map iv) (iv fun k => r s * e k - e s * r k) := Sp.mem (by
            rw [List.map_append]
            exact List.mem_append_left _ (List.mem_map_of_mem (f := iv) (List.mem_map.2 ⟨e, he, rfl⟩)))
          have k2 := k1.add n1 (e s : Rat)
          have e1 : vadd (iv fun k => r s * e k - e s * r k) (e s : Rat) (iv r) = iv fun k => r s * e k := by
            funext k; simp only [vadd, iv, Rat.intCast_sub, Rat.intCast_mul]; grind
          rw [e1] at k2; exact k2
        have n3 : ∀ a, Sp (E.map iv) a → Sp ((others r s E ++ [nrow d r]).map iv) a := fun a ha => Sp.trans (fun b hb => by
          obtain ⟨x, hx, rfl⟩ := List.mem_map.1 hb
          exact n2 x hx) ha
        intro a ha
        rcases List.mem_cons.1 ha with rfl | ha
        · refine iv_div h1.1 ?_
          have k2 := (n3 _ rv).add n1 1
          have e1 : vadd (iv fun k => d * a k - r k) 1 (iv r) = iv fun k => d * a k := by
            funext k; simp only [vadd, iv, Rat.intCast_sub, Rat.intCast_mul]; grind
          rw [e1] at k2; exact k2
        · exact n3 _ (h6 a ha)

/-- The rows are multiples of small integer rows. -/
theorem small_rows {R : List Vc} {S : List Nat} (h : Shp R S) (h8 : S.length ≤ 8) (C : List (Nat → Int)) (hC : ∀ c ∈ C, Sbd 60 c) (hs : ∀ v, Sp R v ↔ Sp (C.map iv) v) {a : Vc} {s : Nat} (hm : (a, s) ∈ R.zip S) :
    ∃ (d : Int) (z : Nat → Int), d ≠ 0 ∧ Sbd (eB 8) z ∧ z s = d ∧ ∀ k, a k * (d : Rat) = a s * (z k : Rat) := by
  obtain ⟨d, E, T, h1, h2, h3, h4, h5, h6⟩ := build h h8 C hC (fun c hc => (hs _).2 (Sp.mem (List.mem_map_of_mem (f := iv) hc)))
  have hT : T.length ≤ 8 := Nat.le_trans (sub_len h1.2.2.1 h2) h8
  have hb : eB T.length ≤ eB 8 := by
    generalize T.length = t at hT
    match t, hT with
    | 0, _ => decide
    | 1, _ => decide
    | 2, _ => decide
    | 3, _ => decide
    | 4, _ => decide
    | 5, _ => decide
    | 6, _ => decide
    | 7, _ => decide
    | 8, _ => decide
    | n + 9, h => omega
  have zE : ∀ e t, (e, t) ∈ E.zip T → (∀ u ∈ T, u ≠ t → iv e u = 0) ∧ iv e t = (d : Rat) := fun e t he => by
    obtain ⟨k1, k2⟩ := h1.2.2.2 e t he
    exact ⟨fun u hu hn => by simp only [iv, k2 u hu hn]; rfl, by simp only [iv, k1]⟩
  have hd : (d : Rat) ≠ 0 := fun e => h1.1 (Rat.intCast_eq_zero_iff.1 e)
  -- the pivot is one of those of E
  have hST : ∀ a s, (a, s) ∈ R.zip S → s ∈ T := fun a s hm => Classical.byContradiction fun hn => by
    obtain ⟨a1, a2, a3, a4⟩ := h.at hm
    have aE : Sp (E.map iv) a := Sp.trans (L := C.map iv) (fun b hb => by
      obtain ⟨x, hx, rfl⟩ := List.mem_map.1 hb
      exact h6 x hx) ((hs a).1 (Sp.mem a1))
    have h0 : ∀ t ∈ T, a t = 0 := fun t ht => a4 t (h2 t ht) (fun e => hn (e ▸ ht))
    have : ∀ (E : List (Nat → Int)) (T : List Nat) (v : Vc), T.Nodup → (∀ e t, (e, t) ∈ E.zip T → (∀ u ∈ T, u ≠ t → iv e u = 0) ∧ iv e t = (d : Rat)) → E.length = T.length → Sp (E.map iv) v → (∀ t ∈ T, v t = 0) → v = vz := by
      intro E
      induction E with
      | nil => intro T v _ _ _ hv _; exact hv
      | cons e E ih =>
        intro T v hn hz hl hv h0
        cases T with
        | nil => simp at hl
        | cons t T =>
          rw [List.nodup_cons] at hn
          obtain ⟨c, hc⟩ := hv
          have k1 : ∀ b ∈ E.map iv, b t = 0 := fun b hb => by
            obtain ⟨x, hx, rfl⟩ := List.mem_map.1 hb
            have : ∃ u, (x, u) ∈ E.zip T := by
              have hl' : E.length = T.length := by simpa using hl
              clear ih hz hn hl hc h0 hb
              induction E generalizing T with
              | nil => simp at hx
              | cons y E ih3 => cases T with
                | nil => simp at hl'
                | cons u T =>
                  rcases List.mem_cons.1 hx with rfl | hx
                  · exact ⟨u, by simp⟩
                  · obtain ⟨u', hu'⟩ := ih3 T hx (by simpa using hl')
                    exact ⟨u', by rw [List.zip_cons_cons]; exact List.mem_cons_of_mem _ hu'⟩
            obtain ⟨u, hu⟩ := this
            have huT := (List.of_mem_zip hu).2
            exact (hz x u (by rw [List.zip_cons_cons]; exact List.mem_cons_of_mem _ hu)).1 t (by simp) (fun e => hn.1 (e ▸ huT))
          have k2 := Sp.at_zero k1 hc
          have k3 := (hz e t (by simp)).2
          simp only [vadd] at k2
          rw [h0 t (by simp), k3] at k2
          have k4 : c = 0 := by
            have : c * (d : Rat) = 0 := by grind
            rcases Rat.mul_eq_zero.1 this with h | h
            · exact h
            · exact absurd h hd
          have e' : vadd v c (iv e) = v := by funext k; simp only [vadd, k4]; grind
          rw [e'] at hc
          exact ih T v hn.2 (fun x u hx => ⟨fun w hw => (hz x u (by rw [List.zip_cons_cons]; exact List.mem_cons_of_mem _ hx)).1 w (by simp [hw]), (hz x u (by rw [List.zip_cons_cons]; exact List.mem_cons_of_mem _ hx)).2⟩) (by simpa using hl) hc fun u hu => h0 u (by simp [hu])
    have := this E T a h1.2.2.1 zE h1.2.1 aE h0
    rw [this] at a3
    exact a3 rfl
  obtain ⟨a1, a2, a3, a4⟩ := h.at hm
  have hsT := hST a s hm
  obtain ⟨e, he⟩ : ∃ e, (e, s) ∈ E.zip T := by
    have hl := h1.2.1
    clear h1 h2 h3 h4 h5 h6 hT hb zE hST
    induction T generalizing E with
    | nil => simp at hsT
    | cons t T ih => cases E with
      | nil => simp at hl
      | cons x E =>
        rcases List.mem_cons.1 hsT with rfl | hsT
        · exact ⟨x, by simp⟩
        · obtain ⟨e, he⟩ := ih E hsT (by simpa using hl)
          exact ⟨e, by rw [List.zip_cons_cons]; exact List.mem_cons_of_mem _ he⟩
  have heE := (List.of_mem_zip he).1
  have h9 := h1.2.2.2 e s he
  refine ⟨d, e, h1.1, (h3 e heE).mono hb, h9.1, fun k => ?_⟩
  have eR : Sp R (iv e) := (hs _).2 (h5 e heE)
  have h10 : iv e = fun k => iv e s / a s * a k := h.par hm eR fun t ht hn => by
    obtain ⟨b, hb'⟩ := h.pivot ht
    exact (zE e s he).1 t (hST b t hb') hn
  have h11 := congrFun h10 k
  have h12 : iv e s = (d : Rat) := (zE e s he).2
  rw [h12] at h11
  simp only [iv] at h11
  rw [h11]
  have : (d : Rat) / a s * a s = d := Rat.div_mul_cancel a3
  grind
end Go.Proofs.Ytjmbpeniibdnoaa
