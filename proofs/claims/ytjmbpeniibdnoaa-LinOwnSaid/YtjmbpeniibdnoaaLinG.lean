/- The echelon form as package lin builds it: plain law. -/
import Derived.Test.YtjmbpeniibdnoaaLinF
set_option linter.unusedVariables false
set_option linter.unusedSimpArgs false
namespace Go.Proofs.Ytjmbpeniibdnoaa

/-- The rows in the order of their leading variables; one more row; all rows. -/
def flatF (n : Nat) (B : Nat → Option Rw) : List Rw := (List.range n).filterMap B
def newF (n : Nat) (r : Rw) : Rw := if (prm r).1.getD (ldF r.1) 0 < 0 then tms (prm r) (-1) else prm r
def putF (n : Nat) (B : Nat → Option Rw) (r : Rw) : Nat → Option Rw := fun i => if i = ldF r.1 then some (newF n r) else (B i).map fun q => prm (redF [newF n r] q)
def stepF (n : Nat) (B : Nat → Option Rw) (r : Rw) : Option (Nat → Option Rw) :=
  if ldF (redF (flatF n B) r).1 < n then some (putF n B (redF (flatF n B) r)) else if (redF (flatF n B) r).2 = 0 then some B else none
def runF (n : Nat) : (Nat → Option Rw) → List Rw → Option (Nat → Option Rw)
  | B, [] => some B
  | B, r :: L => match stepF n B r with
    | none => none
    | some B' => runF n B' L
def rowsF (n : Nat) (L : List Rw) : Option (List Rw) := (runF n (fun _ => none) L).map (flatF n)

structure Inv (n : Nat) (B : Nat → Option Rw) (L : List Vc) : Prop where
  row : ∀ k q, B k = some q → k < n ∧ q.1.length = n ∧ Ld (rv q) k ∧ 0 < rv q k ∧ Pm (rv q)
  alone : ∀ k q k' q', B k = some q → B k' = some q' → k ≠ k' → rv q k' = 0
  span : ∀ v, Sp ((flatF n B).map rv) v ↔ Sp L v

theorem mem_flat {n : Nat} {B : Nat → Option Rw} {q : Rw} : q ∈ flatF n B ↔ ∃ k, k < n ∧ B k = some q := by
  unfold flatF
  rw [List.mem_filterMap]
  constructor
  · rintro ⟨k, h1, h2⟩; exact ⟨k, List.mem_range.1 h1, h2⟩
  · rintro ⟨k, h1, h2⟩; exact ⟨k, List.mem_range.2 h1, h2⟩
theorem Inv.start (n : Nat) : Inv n (fun _ => none) [] := by
  refine ⟨(fun k q h => nomatch h), (fun k q k' q' h => nomatch h), fun v => ?_⟩
  have : flatF n (fun _ => none) = [] := by unfold flatF; induction n with
    | zero => rfl
    | succ n ih => rw [List.range_succ, List.filterMap_append, ih]; rfl
  rw [this]; rfl
theorem Inv.ld {n : Nat} {B : Nat → Option Rw} {L : List Vc} (h : Inv n B L) {k : Nat} {q : Rw} (e : B k = some q) : ldF q.1 = k := by
  obtain ⟨h1, h2, h3, h4, h5⟩ := h.row k q e
  exact ldF_eq q k h3 (by omega)
theorem Inv.flat {n : Nat} {B : Nat → Option Rw} {L : List Vc} (h : Inv n B L) : ∀ q ∈ flatF n B, q.1.length = n ∧ ldF q.1 < n := by
  intro q hq
  obtain ⟨k, h1, h2⟩ := mem_flat.1 hq
  exact ⟨(h.row k q h2).2.1, by rw [h.ld h2]; exact h1⟩
theorem pair_list {n : Nat} {B : Nat → Option Rw} {L : List Vc} (h : Inv n B L) (ks : List Nat) (hn : ks.Nodup) : (ks.filterMap B).Pairwise fun q q' => rv q' (ldF q.1) = 0 := by
  induction ks with
  | nil => exact List.Pairwise.nil
  | cons k ks ih =>
    rw [List.nodup_cons] at hn
    rw [List.filterMap_cons]
    cases e : B k with
    | none => exact ih hn.2
    | some q =>
      refine List.pairwise_cons.2 ⟨fun q' hq' => ?_, ih hn.2⟩
      obtain ⟨k', h1, h2⟩ := List.mem_filterMap.1 hq'
      rw [h.ld e]
      exact h.alone k' q' k q h2 e (fun hk => hn.1 (hk ▸ h1))
theorem Inv.pair {n : Nat} {B : Nat → Option Rw} {L : List Vc} (h : Inv n B L) : (flatF n B).Pairwise fun q q' => rv q' (ldF q.1) = 0 := pair_list h _ List.nodup_range
/-- The leading variables. -/
def leadsF (n : Nat) (B : Nat → Option Rw) : List Nat := (List.range n).filter fun k => (B k).isSome
theorem shp_list {n : Nat} {B : Nat → Option Rw} {L : List Vc} (h : Inv n B L) (ks : List Nat) (hn : ks.Nodup) :
    Shp ((ks.filterMap B).map rv) (ks.filter fun k => (B k).isSome) ∧ ∀ a s, (a, s) ∈ ((ks.filterMap B).map rv).zip (ks.filter fun k => (B k).isSome) → ∃ q, B s = some q ∧ a = rv q := by
  induction ks with
  | nil => exact ⟨trivial, fun a s hm => by cases hm⟩
  | cons k ks ih =>
    rw [List.nodup_cons] at hn
    have ih := ih hn.2
    rw [List.filterMap_cons, List.filter_cons]
    cases e : B k with
    | none => simpa [e] using ih
    | some q =>
      simp only [e, Option.isSome_some, if_true, List.map_cons]
      refine ⟨⟨(h.row k q e).2.2.1.1, fun b hb => ?_, fun t ht => ?_, ih.1⟩, fun a s hm => ?_⟩
      · obtain ⟨q', hq', rfl⟩ := List.mem_map.1 hb
        obtain ⟨k', h1, h2⟩ := List.mem_filterMap.1 hq'
        exact h.alone k' q' k q h2 e (fun hk => hn.1 (hk ▸ h1))
      · obtain ⟨h1, h2⟩ := List.mem_filter.1 ht
        obtain ⟨q', hq'⟩ := Option.isSome_iff_exists.1 h2
        exact h.alone k q t q' e hq' (fun hk => hn.1 (hk ▸ h1))
      · rw [List.zip_cons_cons] at hm
        rcases List.mem_cons.1 hm with hm | hm
        · injection hm with h1 h2
          subst h1 h2
          exact ⟨q, e, rfl⟩
        · exact ih.2 a s hm
/-- What is held is the echelon form. -/
theorem Inv.ech {n : Nat} {B : Nat → Option Rw} {L : List Vc} (h : Inv n B L) : Ech n L ((flatF n B).map rv) := by
  have h1 := shp_list h (List.range n) List.nodup_range
  refine ⟨leadsF n B, h1.1, fun a s hm => ?_, ?_, fun s hs => ?_, fun a s hm => ?_, h.span⟩
  · obtain ⟨q, e, rfl⟩ := h1.2 a s hm
    exact (h.row s q e).2.2.1
  · exact List.Pairwise.filter _ List.pairwise_lt_range
  · exact List.mem_range.1 (List.mem_filter.1 hs).1
  · obtain ⟨q, e, rfl⟩ := h1.2 a s hm
    exact ⟨(h.row s q e).2.2.2.2, (h.row s q e).2.2.2.1⟩

theorem sp_snoc_l {L : List Vc} {a v : Vc} (h : Sp L v) : Sp (L ++ [a]) v := Sp.trans (fun b hb => Sp.mem (by simp [hb])) h
theorem sp_snoc_r (L : List Vc) (a : Vc) : Sp (L ++ [a]) a := Sp.mem (by simp)
theorem sp_eq {L M : List Vc} (h1 : ∀ a ∈ L, Sp M a) (h2 : ∀ a ∈ M, Sp L a) (v : Vc) : Sp L v ↔ Sp M v := ⟨Sp.trans h1, Sp.trans h2⟩
theorem newF_spec {n : Nat} {r : Rw} (hr : r.1.length = n) (hk : ldF r.1 < n) : ∃ c : Rat, c ≠ 0 ∧ (∀ k, rv (newF n r) k = c * rv r k) ∧ Pm (rv (newF n r)) ∧ 0 < rv (newF n r) (ldF r.1) ∧ (newF n r).1.length = n := by
  have hl := ldF_ld r (by omega)
  obtain ⟨c, hc, h1, h2⟩ := prm_spec r
  have h3 := h2 ⟨_, hl.1⟩
  have hpl := prm_len r
  have h4 : rv (prm r) (ldF r.1) ≠ 0 := by
    rw [h1]
    intro h
    rcases Rat.mul_eq_zero.1 h with h | h
    · rw [h] at hc; exact absurd hc (by decide)
    · exact hl.1 h
  have e := rv_lt (prm r) (ldF r.1) (by omega)
  unfold newF
  split
  · rename_i hneg
    refine ⟨-c, ?_, fun k => ?_, ?_, ?_, by rw [tms_len]; omega⟩
    · intro h; have : c = 0 := by grind
      rw [this] at hc; exact absurd hc (by decide)
    · rw [rv_tms, h1]; grind
    · obtain ⟨z, hz, hg⟩ := h3
      refine ⟨fun k => -(z k), fun k => ?_, fun g hgd => hg g fun k => ?_⟩
      · rw [rv_tms, hz k]
        show (z k : Rat) * -1 = ((-(z k) : Int) : Rat)
        rw [Rat.intCast_neg]; grind
      · exact Int.dvd_neg.1 (hgd k)
    · rw [rv_tms, e]; grind
  · rename_i hneg
    refine ⟨c, ?_, h1, h3, ?_, by omega⟩
    · intro h; rw [h] at hc; exact absurd hc (by decide)
    · rw [e] at h4 ⊢; grind
theorem putF_old {n : Nat} {B : Nat → Option Rw} {L : List Vc} (h : Inv n B L) {r : Rw} (hr : r.1.length = n) (hk : ldF r.1 < n) (hz : ∀ q ∈ flatF n B, rv r (ldF q.1) = 0) {k : Nat} {q : Rw} (e : B k = some q) :
    k ≠ ldF r.1 ∧ ∃ c d : Rat, c ≠ 0 ∧ (∀ i, rv (prm (redF [newF n r] q)) i = c * (rv q i + d * rv (newF n r) i)) ∧ (prm (redF [newF n r] q)).1.length = n ∧ Ld (rv (prm (redF [newF n r] q))) k ∧ 0 < rv (prm (redF [newF n r] q)) k ∧ Pm (rv (prm (redF [newF n r] q))) ∧ rv (prm (redF [newF n r] q)) (ldF r.1) = 0 := by
  obtain ⟨c1, hc1, n1, n2, n3, n4⟩ := newF_spec hr hk
  have hl := ldF_ld r (by omega)
  obtain ⟨q1, q2, q3, q4, q5⟩ := h.row k q e
  have hrk : rv r k = 0 := by have := hz q (mem_flat.2 ⟨k, q1, e⟩); rwa [h.ld e] at this
  have hne : k ≠ ldF r.1 := fun hh => hl.1 (by rw [← hh]; exact hrk)
  have hnl : Ld (rv (newF n r)) (ldF r.1) := by
    refine ⟨fun hh => ?_, fun i hi => ?_⟩
    · rw [hh] at n3; exact absurd n3 (by decide)
    · rw [n1, hl.2 i hi]; grind
  have hld : ldF (newF n r).1 = ldF r.1 := ldF_eq _ _ hnl (by omega)
  have hlen : (redF [newF n r] q).1.length = n := red_len (by intro x hx; rw [List.mem_singleton] at hx; rw [hx]; exact n4) q2
  have hv : ∀ i, rv (redF [newF n r] q) i = rv q i + -(rv q (ldF r.1) / rv (newF n r) (ldF r.1)) * rv (newF n r) i := by
    intro i
    show rv (red1 (newF n r) q) i = _
    rw [red1_rv n4 q2 (by rw [hld]; exact hk), hld]; grind
  obtain ⟨c, hc, p1, p2⟩ := prm_spec (redF [newF n r] q)
  have hcn : c ≠ 0 := by intro hh; rw [hh] at hc; exact absurd hc (by decide)
  have hkv : rv (redF [newF n r] q) k = rv q k := by
    have e9 : rv (newF n r) k = 0 := by rw [n1, hrk]; grind
    rw [hv, e9]; grind
  refine ⟨hne, c, -(rv q (ldF r.1) / rv (newF n r) (ldF r.1)), hcn, fun i => by rw [p1, hv], by rw [prm_len]; exact hlen, ⟨?_, fun i hi => ?_⟩, ?_, p2 ⟨k, by rw [hkv]; exact q3.1⟩, ?_⟩
  · rw [p1, hkv]
    intro hh
    rcases Rat.mul_eq_zero.1 hh with hh | hh
    · exact hcn hh
    · exact q3.1 hh
  · rw [p1, hv, q3.2 i hi]
    rcases Nat.lt_or_ge i (ldF r.1) with h1 | h1
    · rw [hnl.2 i h1]; grind
    · have : rv q (ldF r.1) = 0 := q3.2 _ (by omega)
      rw [this]; grind
  · rw [p1, hkv]; exact Rat.mul_pos hc q4
  · rw [p1, hv]
    have := hnl.1
    grind
/-- One row more. -/
theorem step_spec {n : Nat} {B : Nat → Option Rw} {L : List Vc} (h : Inv n B L) {r : Rw} (hr : r.1.length = n) :
    match stepF n B r with
    | some B' => Inv n B' (L ++ [rv r])
    | none => ∃ v, Sp (L ++ [rv r]) v ∧ Ld v n := by
  have hf := h.flat
  have hl := red_len (fun q hq => (hf q hq).1) hr
  have hz := red_zero hf h.pair hr
  obtain ⟨v, hv, e⟩ := red_span hf hr
  unfold stepF
  generalize hr1 : redF (flatF n B) r = r1 at *
  clear hr1
  have hvL : Sp L v := (h.span v).1 hv
  have hr1s : Sp (L ++ [rv r]) (rv r1) := by
    have h1 := (sp_snoc_r L (rv r)).add (sp_snoc_l (a := rv r) hvL) 1
    have : vadd (rv r) 1 v = rv r1 := by funext k; rw [e k]; simp only [vadd]; grind
    rwa [this] at h1
  have hq : ∀ q ∈ flatF n B, Sp (L ++ [rv r]) (rv q) := fun q hq => sp_snoc_l ((h.span _).1 (Sp.mem (List.mem_map.2 ⟨q, hq, rfl⟩)))
  by_cases hk : ldF r1.1 < n
  · rw [if_pos hk]
    simp only
    obtain ⟨c1, hc1, n1, n2, n3, n4⟩ := newF_spec hl hk
    have hlr := ldF_ld r1 (by omega)
    have hnl : Ld (rv (newF n r1)) (ldF r1.1) := by
      refine ⟨fun hh => ?_, fun i hi => ?_⟩
      · rw [hh] at n3; exact absurd n3 (by decide)
      · rw [n1, hlr.2 i hi]; grind
    have hB : ∀ k q', putF n B r1 k = some q' → (k = ldF r1.1 ∧ q' = newF n r1) ∨ (k ≠ ldF r1.1 ∧ ∃ q, B k = some q ∧ q' = prm (redF [newF n r1] q)) := by
      intro k q' hp
      unfold putF at hp
      split at hp
      · rename_i hh; exact .inl ⟨hh, (Option.some.inj hp).symm⟩
      · rename_i hh
        cases eb : B k with
        | none => rw [eb] at hp; cases hp
        | some q => rw [eb] at hp; exact .inr ⟨hh, q, rfl, (Option.some.inj hp).symm⟩
    have hmem : ∀ k q, B k = some q → q ∈ flatF n B := fun k q hb => mem_flat.2 ⟨k, (h.row k q hb).1, hb⟩
    refine ⟨fun k q' hp => ?_, fun k q1 k' q2 hp1 hp2 hne => ?_, sp_eq (fun a ha => ?_) (fun a ha => ?_)⟩
    · rcases hB k q' hp with ⟨rfl, rfl⟩ | ⟨hne, q, hb, rfl⟩
      · exact ⟨hk, n4, hnl, n3, n2⟩
      · obtain ⟨_, c, d, _, _, o2, o3, o4, o5, _⟩ := putF_old h hl hk hz hb
        exact ⟨(h.row k q hb).1, o2, o3, o4, o5⟩
    · rcases hB k q1 hp1 with ⟨rfl, rfl⟩ | ⟨hne1, p1, hb1, rfl⟩
      · rcases hB k' q2 hp2 with ⟨rfl, rfl⟩ | ⟨hne2, p2, hb2, rfl⟩
        · exact absurd rfl hne
        · have := hz p2 (hmem _ _ hb2)
          rw [h.ld hb2] at this
          rw [n1, this]; grind
      · obtain ⟨_, c, d, _, o1, _, _, _, _, o6⟩ := putF_old h hl hk hz hb1
        rcases hB k' q2 hp2 with ⟨rfl, rfl⟩ | ⟨hne2, p2, hb2, rfl⟩
        · exact o6
        · have := hz p2 (hmem _ _ hb2)
          rw [h.ld hb2] at this
          rw [o1, h.alone k p1 k' p2 hb1 hb2 hne, n1, this]; grind
    · obtain ⟨q', hq', rfl⟩ := List.mem_map.1 ha
      obtain ⟨k, hkn, hp⟩ := mem_flat.1 hq'
      have hns : Sp (L ++ [rv r]) (rv (newF n r1)) := by
        have := hr1s.smul c1
        have e2 : (fun k => c1 * rv r1 k) = rv (newF n r1) := by funext k; rw [n1]
        rwa [e2] at this
      rcases hB k q' hp with ⟨rfl, rfl⟩ | ⟨hne, q, hb, rfl⟩
      · exact hns
      · obtain ⟨_, c, d, _, o1, _⟩ := putF_old h hl hk hz hb
        have h1 := (hq q (hmem _ _ hb)).lin hns c (c * d)
        have e2 : (fun k => c * rv q k + c * d * rv (newF n r1) k) = rv (prm (redF [newF n r1] q)) := by funext k; rw [o1]; grind
        rwa [e2] at h1
    · have hnew : Sp ((flatF n (putF n B r1)).map rv) (rv (newF n r1)) := Sp.mem (List.mem_map.2 ⟨_, mem_flat.2 ⟨ldF r1.1, hk, by unfold putF; rw [if_pos rfl]⟩, rfl⟩)
      have hold : ∀ a, Sp L a → Sp ((flatF n (putF n B r1)).map rv) a := by
        intro a ha
        refine Sp.trans (fun b hb => ?_) ((h.span a).2 ha)
        obtain ⟨q, hq, rfl⟩ := List.mem_map.1 hb
        obtain ⟨k, hkn, hb⟩ := mem_flat.1 hq
        obtain ⟨hne, c, d, hc, o1, _⟩ := putF_old h hl hk hz hb
        have hm : Sp ((flatF n (putF n B r1)).map rv) (rv (prm (redF [newF n r1] q))) := Sp.mem (List.mem_map.2 ⟨_, mem_flat.2 ⟨k, hkn, by unfold putF; rw [if_neg hne, hb]; rfl⟩, rfl⟩)
        have h1 := hm.lin hnew (1 / c) (-d)
        have e2 : (fun i => 1 / c * rv (prm (redF [newF n r1] q)) i + -d * rv (newF n r1) i) = rv q := by funext i; rw [o1]; grind
        rwa [e2] at h1
      rcases List.mem_append.1 ha with ha | ha
      · exact hold a (Sp.mem ha)
      · rw [List.mem_singleton] at ha
        subst ha
        have h1 := hnew.lin (hold v hvL) (1 / c1) (-1)
        have e2 : (fun i => 1 / c1 * rv (newF n r1) i + -1 * v i) = rv r := by funext i; rw [n1, e i]; grind
        rwa [e2] at h1
  · rw [if_neg hk]
    have hk' : ldF r1.1 = r1.1.length := by have := ldF_le r1.1; omega
    have hall := ldF_all r1 hk'
    have hadd := rv_add r1
    by_cases h0 : r1.2 = 0
    · rw [if_pos h0]
      simp only
      have hr0 : ∀ k, rv r1 k = 0 := by
        intro k
        rcases Nat.lt_trichotomy k r1.1.length with h1 | h1 | h1
        · exact hall k h1
        · rw [h1, hadd, h0]
        · exact rv_gt _ _ h1
      refine ⟨h.row, h.alone, fun a => (h.span a).trans (sp_eq (fun b hb => sp_snoc_l (Sp.mem hb)) (fun b hb => ?_) a)⟩
      rcases List.mem_append.1 hb with hb | hb
      · exact Sp.mem hb
      · rw [List.mem_singleton] at hb
        subst hb
        have h1 := hvL.smul (-1)
        have e2 : (fun i => -1 * v i) = rv r := by funext i; have := e i; rw [hr0] at this; grind
        rwa [e2] at h1
    · rw [if_neg h0]
      simp only
      refine ⟨rv r1, hr1s, ?_, fun k hk2 => hall k (by omega)⟩
      rw [← hl, hadd]; exact h0
theorem run_spec {n : Nat} (L : List Rw) : ∀ {B : Nat → Option Rw} {M : List Vc}, Inv n B M → (∀ r ∈ L, r.1.length = n) →
    match runF n B L with
    | some B' => Inv n B' (M ++ L.map rv)
    | none => ∃ v, Sp (M ++ L.map rv) v ∧ Ld v n := by
  induction L with
  | nil => intro B M h _; show Inv n B (M ++ []); rw [List.append_nil]; exact h
  | cons r L ih =>
    intro B M h hL
    have h1 := step_spec h (hL r (by simp))
    unfold runF
    cases e : stepF n B r with
    | none =>
      rw [e] at h1
      obtain ⟨v, hv, hl⟩ := h1
      refine ⟨v, Sp.trans (fun a ha => Sp.mem ?_) hv, hl⟩
      rw [List.map_cons]
      rcases List.mem_append.1 ha with ha | ha
      · simp [ha]
      · rw [List.mem_singleton] at ha; simp [ha]
    | some B' =>
      rw [e] at h1
      simp only at h1 ⊢
      have h2 := ih h1 (fun q hq => hL q (by simp [hq]))
      rw [List.append_assoc] at h2
      exact h2
/-- Rows: the echelon form; or an equation that has no solution. -/
theorem rows_spec {n : Nat} (L : List Rw) (hL : ∀ r ∈ L, r.1.length = n) :
    match rowsF n L with
    | some R => Ech n (L.map rv) (R.map rv) ∧ ∀ q ∈ R, q.1.length = n
    | none => ∃ v, Sp (L.map rv) v ∧ Ld v n := by
  have h := run_spec L (Inv.start n) hL
  unfold rowsF
  cases e : runF n (fun _ => none) L with
  | none => rw [e] at h; exact h
  | some B =>
    rw [e] at h
    simp only [List.nil_append] at h
    exact ⟨h.ech, fun q hq => (h.flat q hq).1⟩
/-- The echelon form is one; it leaves no equation without a solution. -/
theorem Ech.no {n : Nat} {L R : List Vc} (h : Ech n L R) {v : Vc} (hv : Sp L v) : ¬ Ld v n := by
  obtain ⟨S, h1, h2, h3, h4, h5, h6⟩ := h
  intro hl
  have := Shp.lead h1 h2 ((h6 v).2 hv) hl
  have := h4 n this
  omega
theorem rv_inj {a b : Rw} (hl : a.1.length = b.1.length) (h : rv a = rv b) : a = b := by
  have h1 : a.1 = b.1 := by
    apply List.ext_getElem? ; intro k
    rcases Nat.lt_or_ge k a.1.length with hk | hk
    · have := congrFun h k
      rw [rv_lt _ _ hk, rv_lt _ _ (by omega), List.getD_eq_getElem?_getD, List.getD_eq_getElem?_getD, List.getElem?_eq_getElem hk, List.getElem?_eq_getElem (by omega : k < b.1.length)] at this
      rw [List.getElem?_eq_getElem hk, List.getElem?_eq_getElem (by omega : k < b.1.length)]
      exact congrArg some this
    · rw [List.getElem?_eq_none hk, List.getElem?_eq_none (by omega)]
  have h2 : a.2 = b.2 := by
    have := congrFun h a.1.length
    rw [rv_add, hl, rv_add] at this
    exact this
  exact Prod.ext h1 h2
end Go.Proofs.Ytjmbpeniibdnoaa
