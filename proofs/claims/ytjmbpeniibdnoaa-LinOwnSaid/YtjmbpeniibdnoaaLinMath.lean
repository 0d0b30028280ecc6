/- Linear algebra over the rationals: plain law. -/
set_option linter.unusedVariables false
set_option linter.unusedSimpArgs false
namespace Go.Proofs.Ytjmbpeniibdnoaa

/-- A vector: its entries. -/
abbrev Vc := Nat → Rat
def vz : Vc := fun _ => 0
def vadd (v : Vc) (c : Rat) (a : Vc) : Vc := fun k => v k + c * a k
/-- v is a combination of the vectors of a list. -/
def Sp : List Vc → Vc → Prop
  | [], v => v = vz
  | a :: L, v => ∃ c, Sp L (vadd v c a)

theorem Sp.zero (L : List Vc) : Sp L vz := by
  induction L with
  | nil => rfl
  | cons a L ih =>
    refine ⟨0, ?_⟩
    have : vadd vz 0 a = vz := by funext k; simp only [vadd, vz]; grind
    rw [this]; exact ih
theorem Sp.lin {L : List Vc} {v w : Vc} (hv : Sp L v) (hw : Sp L w) (c d : Rat) : Sp L (fun k => c * v k + d * w k) := by
  induction L generalizing v w with
  | nil =>
    have hv : v = vz := hv
    have hw : w = vz := hw
    show _ = vz
    subst hv hw
    funext k; simp only [vz]; grind
  | cons a L ih =>
    obtain ⟨x, hx⟩ := hv
    obtain ⟨y, hy⟩ := hw
    refine ⟨c * x + d * y, ?_⟩
    have h := ih hx hy
    have e : vadd (fun k => c * v k + d * w k) (c * x + d * y) a = fun k => c * vadd v x a k + d * vadd w y a k := by
      funext k; simp only [vadd]; grind
    rw [e]; exact h
theorem Sp.smul {L : List Vc} {v : Vc} (hv : Sp L v) (c : Rat) : Sp L (fun k => c * v k) := by
  have h := hv.lin (Sp.zero L) c 0
  have e : (fun k => c * v k + 0 * vz k) = fun k => c * v k := by funext k; simp only [vz]; grind
  rw [e] at h; exact h
theorem Sp.add {L : List Vc} {v w : Vc} (hv : Sp L v) (hw : Sp L w) (d : Rat) : Sp L (vadd v d w) := by
  have h := hv.lin hw 1 d
  have e : (fun k => 1 * v k + d * w k) = vadd v d w := by funext k; simp only [vadd]; grind
  rw [e] at h; exact h
theorem Sp.skip {L : List Vc} {v : Vc} (hv : Sp L v) (a : Vc) : Sp (a :: L) v := by
  refine ⟨0, ?_⟩
  have e : vadd v 0 a = v := by funext k; simp only [vadd]; grind
  rw [e]; exact hv
theorem Sp.head (a : Vc) (L : List Vc) : Sp (a :: L) a := by
  refine ⟨-1, ?_⟩
  have e : vadd a (-1) a = vz := by funext k; simp only [vadd, vz]; grind
  rw [e]; exact Sp.zero L
theorem Sp.mem {L : List Vc} {a : Vc} (h : a ∈ L) : Sp L a := by
  induction L with
  | nil => cases h
  | cons b L ih =>
    rcases List.mem_cons.1 h with rfl | h
    · exact Sp.head _ _
    · exact (ih h).skip b
theorem Sp.trans {L M : List Vc} (h : ∀ a ∈ L, Sp M a) {v : Vc} (hv : Sp L v) : Sp M v := by
  induction L generalizing v with
  | nil => have hv : v = vz := hv; rw [hv]; exact Sp.zero M
  | cons a L ih =>
    obtain ⟨c, hc⟩ := hv
    have h1 := ih (fun b hb => h b (by simp [hb])) hc
    have h2 := h1.add (h a (by simp)) (-c)
    have e : vadd (vadd v c a) (-c) a = v := by funext k; simp only [vadd]; grind
    rw [e] at h2; exact h2
/-- Combinations agree where all vectors of the list agree: a linear form that is 0 on the list is 0 on its span. -/
theorem Sp.at_zero {L : List Vc} {j : Nat} (h : ∀ a ∈ L, a j = 0) {v : Vc} (hv : Sp L v) : v j = 0 := by
  induction L generalizing v with
  | nil => have hv : v = vz := hv; rw [hv]; rfl
  | cons a L ih =>
    obtain ⟨c, hc⟩ := hv
    have h1 := ih (fun b hb => h b (by simp [hb])) hc
    have h2 := h a (by simp)
    simp only [vadd] at h1
    rw [h2] at h1
    grind

/-- Rows with pivot columns: each row is alone in its column. -/
def Shp : List Vc → List Nat → Prop
  | [], [] => True
  | a :: R, s :: S => a s ≠ 0 ∧ (∀ b ∈ R, b s = 0) ∧ (∀ t ∈ S, a t = 0) ∧ Shp R S
  | _, _ => False
theorem Shp.vanish {R : List Vc} {S : List Nat} (h : Shp R S) {v : Vc} (hv : Sp R v) (hz : ∀ s ∈ S, v s = 0) : v = vz := by
  induction R generalizing S v with
  | nil => exact hv
  | cons a R ih =>
    cases S with
    | nil => exact h.elim
    | cons s S =>
      obtain ⟨h1, h2, h3, h4⟩ := h
      obtain ⟨c, hc⟩ := hv
      have h5 := Sp.at_zero h2 hc
      have h6 := hz s (by simp)
      simp only [vadd] at h5
      have h7 : c = 0 := by
        have : c * a s = 0 := by rw [h6] at h5; grind
        rcases Rat.mul_eq_zero.1 this with h | h
        · exact h
        · exact absurd h h1
      have e : vadd v c a = v := by funext k; simp only [vadd, h7]; grind
      rw [e] at hc
      exact ih h4 hc fun t ht => hz t (by simp [ht])
theorem Shp.len {R : List Vc} {S : List Nat} (h : Shp R S) : R.length = S.length := by
  induction R generalizing S with
  | nil => cases S with
    | nil => rfl
    | cons s S => exact h.elim
  | cons a R ih => cases S with
    | nil => exact h.elim
    | cons s S => simp [ih h.2.2.2]
/-- A row and its pivot. -/
theorem Shp.at {R : List Vc} {S : List Nat} (h : Shp R S) {a : Vc} {s : Nat} (hm : (a, s) ∈ R.zip S) : a ∈ R ∧ s ∈ S ∧ a s ≠ 0 ∧ ∀ t ∈ S, t ≠ s → a t = 0 := by
  induction R generalizing S with
  | nil => simp at hm
  | cons b R ih => cases S with
    | nil => exact h.elim
    | cons u S =>
      obtain ⟨h1, h2, h3, h4⟩ := h
      rw [List.zip_cons_cons, List.mem_cons] at hm
      rcases hm with hm | hm
      · rw [Prod.mk.injEq] at hm
        obtain ⟨rfl, rfl⟩ := hm
        refine ⟨by simp, by simp, h1, fun t ht hn => ?_⟩
        rcases List.mem_cons.1 ht with ht | ht
        · exact absurd ht hn
        · exact h3 t ht
      · obtain ⟨k1, k2, k3, k4⟩ := ih h4 hm
        refine ⟨by simp [k1], by simp [k2], k3, fun t ht hn => ?_⟩
        rcases List.mem_cons.1 ht with ht | ht
        · rw [ht]; exact h2 a k1
        · exact k4 t ht hn
theorem Shp.pivot {R : List Vc} {S : List Nat} (h : Shp R S) {s : Nat} (hs : s ∈ S) : ∃ a, (a, s) ∈ R.zip S := by
  induction R generalizing S with
  | nil => cases S with
    | nil => simp at hs
    | cons _ _ => exact h.elim
  | cons b R ih => cases S with
    | nil => exact h.elim
    | cons u S =>
      rcases List.mem_cons.1 hs with rfl | hs
      · exact ⟨b, by simp⟩
      · obtain ⟨a, ha⟩ := ih h.2.2.2 hs
        exact ⟨a, by rw [List.zip_cons_cons]; exact List.mem_cons_of_mem _ ha⟩
theorem Shp.row {R : List Vc} {S : List Nat} (h : Shp R S) {a : Vc} (ha : a ∈ R) : ∃ s, (a, s) ∈ R.zip S := by
  induction R generalizing S with
  | nil => simp at ha
  | cons b R ih => cases S with
    | nil => exact h.elim
    | cons u S =>
      rcases List.mem_cons.1 ha with rfl | ha
      · exact ⟨u, by simp⟩
      · obtain ⟨s, hs⟩ := ih h.2.2.2 ha
        exact ⟨s, by rw [List.zip_cons_cons]; exact List.mem_cons_of_mem _ hs⟩
/-- A combination that is 0 in all other pivots is a multiple of the row. -/
theorem Shp.par {R : List Vc} {S : List Nat} (h : Shp R S) {a : Vc} {s : Nat} (hm : (a, s) ∈ R.zip S) {b : Vc} (hb : Sp R b) (hz : ∀ t ∈ S, t ≠ s → b t = 0) :
    b = fun k => b s / a s * a k := by
  obtain ⟨h1, h2, h3, h4⟩ := h.at hm
  have h5 := hb.add (Sp.mem h1) (-(b s / a s))
  have h6 := h.vanish h5 fun t ht => by
    by_cases e : t = s
    · subst e
      simp only [vadd]
      have : b t / a t * a t = b t := Rat.div_mul_cancel h3
      grind
    · simp only [vadd]
      rw [hz t ht e, h4 t ht e]
      grind
  funext k
  have h7 := congrFun h6 k
  simp only [vadd, vz] at h7
  grind
/-- The leading column. -/
def Ld (a : Vc) (s : Nat) : Prop := a s ≠ 0 ∧ ∀ k, k < s → a k = 0
def Lds (R : List Vc) (S : List Nat) : Prop := ∀ a s, (a, s) ∈ R.zip S → Ld a s
theorem Lds.tail {a : Vc} {R : List Vc} {s : Nat} {S : List Nat} (h : Lds (a :: R) (s :: S)) : Ld a s ∧ Lds R S :=
  ⟨h a s (by simp), fun b t hb => h b t (by rw [List.zip_cons_cons]; exact List.mem_cons_of_mem _ hb)⟩
theorem Shp.lead {R : List Vc} {S : List Nat} (h : Shp R S) (hl : Lds R S) {v : Vc} (hv : Sp R v) {s : Nat} (hs : Ld v s) : s ∈ S := by
  induction R generalizing S v with
  | nil => have hv : v = vz := hv; rw [hv] at hs; exact absurd rfl hs.1
  | cons a R ih => cases S with
    | nil => exact h.elim
    | cons t S =>
      obtain ⟨h1, h2, h3, h4⟩ := h
      obtain ⟨l1, l2⟩ := hl.tail
      obtain ⟨c, hc⟩ := hv
      rcases Nat.lt_trichotomy t s with e | e | e
      · have h5 := Sp.at_zero h2 hc
        simp only [vadd] at h5
        rw [hs.2 t e] at h5
        have h7 : c = 0 := by
          have : c * a t = 0 := by grind
          rcases Rat.mul_eq_zero.1 this with h | h
          · exact h
          · exact absurd h h1
        have e' : vadd v c a = v := by funext k; simp only [vadd, h7]; grind
        rw [e'] at hc
        exact List.mem_cons_of_mem _ (ih h4 l2 hc hs)
      · rw [e]; simp
      · refine List.mem_cons_of_mem _ (ih h4 l2 hc ⟨?_, fun k hk => ?_⟩)
        · simp only [vadd]; rw [l1.2 s e]; have := hs.1; grind
        · simp only [vadd]; rw [l1.2 k (by omega), hs.2 k hk]; grind
theorem asc_ext {S T : List Nat} (hS : S.Pairwise (· < ·)) (hT : T.Pairwise (· < ·)) (h : ∀ s, s ∈ S ↔ s ∈ T) : S = T := by
  induction S generalizing T with
  | nil => cases T with
    | nil => rfl
    | cons t T => exact absurd ((h t).2 (by simp)) (by simp)
  | cons s S ih => cases T with
    | nil => exact absurd ((h s).1 (by simp)) (by simp)
    | cons t T =>
      rw [List.pairwise_cons] at hS hT
      have e : s = t := by
        have h1 := (h s).1 (by simp)
        have h2 := (h t).2 (by simp)
        rcases List.mem_cons.1 h1 with h1 | h1
        · exact h1
        · rcases List.mem_cons.1 h2 with h2 | h2
          · exact h2.symm
          · have := hS.1 t h2; have := hT.1 s h1; omega
      subst e
      rw [ih hS.2 hT.2 fun u => ?_]
      constructor
      · intro hu
        have := hS.1 u hu
        rcases List.mem_cons.1 ((h u).1 (by simp [hu])) with h1 | h1
        · omega
        · exact h1
      · intro hu
        have := hT.1 u hu
        rcases List.mem_cons.1 ((h u).2 (by simp [hu])) with h1 | h1
        · omega
        · exact h1
end Go.Proofs.Ytjmbpeniibdnoaa
