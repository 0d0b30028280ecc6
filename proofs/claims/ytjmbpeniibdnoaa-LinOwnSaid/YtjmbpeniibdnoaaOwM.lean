/- LinOwn: memory: results of the call's own. -/
import Derived.Test.YtjmbpeniibdnoaaLinB
import Derived.Deep.AppendSrc
import Derived.Deep.Upon
set_option linter.unusedVariables false
set_option linter.unusedSimpArgs false
namespace Go.Proofs.Ytjmbpeniibdnoaa
open Go.RowKit

/-- What stands from block hi on is kept. -/
def Fr (hi : Nat) (w w' : World) : Prop := w.heap.size ≤ w'.heap.size ∧ ∀ k, hi ≤ k → k < w.heap.size → w'.heap[k]? = w.heap[k]?
theorem Fr.refl (hi : Nat) (w : World) : Fr hi w w := ⟨Nat.le_refl _, fun _ _ _ => rfl⟩
theorem Fr.trans {hi : Nat} {a b c : World} (h : Fr hi a b) (k : Fr hi b c) : Fr hi a c := ⟨Nat.le_trans h.1 k.1, fun i h1 h2 => (k.2 i h1 (Nat.lt_of_lt_of_le h2 h.1)).trans (h.2 i h1 h2)⟩
theorem Fr.below {hi : Nat} {w w' : World} (h : Below w.heap.size w w') : Fr hi w w' := ⟨h.size, fun k _ h2 => h.block k h2⟩
theorem Fr.set {hi : Nat} {w : World} {g i : Nat} (hg : g < hi) (v : Value) : Fr hi w (w.setCell ⟨g, i, none⟩ v) := ⟨by simp, fun k h1 h2 => heap_setCell_other _ _ _ _ (show k ≠ g by omega)⟩
theorem FmB.fr {hi : Nat} {v : Value} {w w' : World} {f : Fm} (h : FmB hi v w f) (k : Fr hi w w') : FmB hi v w' f := by
  obtain ⟨A, n, c, rfl, h1, h2⟩ := h
  refine ⟨A, n, c, rfl, ⟨h1.1, h1.2.1, fun hn => ?_⟩, fun hn => ?_⟩
  · obtain ⟨g, off, cs, fr, e, hg, hc⟩ := h1.2.2 hn
    obtain ⟨g', cs', e', hb, hg'⟩ := h2 hn
    rw [e] at e'
    cases e'
    exact ⟨g, _, cs, fr, e, (k.2 g hb (blk_lt hg)).trans hg, hc⟩
  · obtain ⟨g', cs', e', hb, hg'⟩ := h2 hn
    exact ⟨g', cs', e', hb, (k.2 g' hb (blk_lt hg')).trans hg'⟩
theorem Kind.Own.fr {α β : Type} {K : Kind α β} {w w' : World} {hi n : Nat} {v : Value} {R : List β} (ho : K.Own w hi v n R) (k : Fr hi w w') (hI : ∀ y r, K.Is w y r → K.Is w' y r) : K.Own w' hi v n R := by
  obtain ⟨l, h1, h2, h3, h4⟩ := ho
  refine ⟨l, ⟨h1.1, ?_⟩, h2, h3, fun j hj => hI _ _ (h4 j hj)⟩
  rcases h1.2 with h0 | ⟨g', cap', cur, hv, hb, hg, r⟩
  · exact .inl h0
  · exact .inr ⟨g', cap', cur, hv, hb, (k.2 g' hb (blk_lt hg)).trans hg, r⟩
theorem FoB.fr {hi : Nat} {w w' : World} {A : Option Addr} {n c : Nat} {F : List Fm} (h : FoB hi w A n c F) (k : Fr hi w w') (hn : n ≤ 1000000) : FoB hi w' A n c F := by
  have h2 := h.2.fr k fun y r hy => by
    obtain ⟨_, _, _, e, h1, h2⟩ := FmB.fr (v := .agg #[.slice y.A y.n y.c, .int .i64 r.2]) ⟨y.A, y.n, y.c, rfl, hy.1, hy.2.1⟩ k
    cases e
    exact ⟨h1, h2, hy.2.2⟩
  obtain ⟨A', c', e, hr⟩ := KFb.rdF h2 hn
  cases e
  exact ⟨hr, h2⟩
theorem NuB.fr {hi : Nat} {w w' : World} {A : Option Addr} {n c : Nat} {X : List (Int × Int)} (h : NuB hi w A n c X) (k : Fr hi w w') (hn : n ≤ 1000000) : NuB hi w' A n c X := by
  have h2 := h.2.fr k fun y r hy => hy
  obtain ⟨A', c', e, hr⟩ := KN.rdN h2 hn
  cases e
  exact ⟨hr, h2⟩
/-- A block that holds n ints. -/
def IntB (w : World) (g n : Nat) : Prop := ∃ cs, w.heap[g]? = some (.cells cs 3 (0, 0)) ∧ ∀ j, j < n → ∃ z, cs[j]? = some (.int .i64 z)
theorem IntB.bl {w w' : World} {g n : Nat} (h : IntB w g n) (hb : Below w.heap.size w w') : IntB w' g n := by
  obtain ⟨cs, h1, h2⟩ := h
  exact ⟨cs, blk_below h1 hb, h2⟩
theorem IntB.set {w : World} {g n g' i : Nat} (h : IntB w g n) (z : Int) : IntB (w.setCell ⟨g', i, none⟩ (.int .i64 z)) g n := by
  obtain ⟨cs, h1, h2⟩ := h
  by_cases e : g = g'
  · subst e
    refine ⟨cs.setIfInBounds i (.int .i64 z), blk_set h1 i _, fun j hj => ?_⟩
    by_cases e2 : i = j
    · subst e2
      obtain ⟨z', hz'⟩ := h2 i hj
      have hlt := (Array.getElem?_eq_some_iff.1 hz').1
      exact ⟨z, by rw [Array.getElem?_setIfInBounds_self_of_lt hlt]⟩
    · obtain ⟨z', hz'⟩ := h2 j hj
      exact ⟨z', by rw [Array.getElem?_setIfInBounds_ne e2]; exact hz'⟩
  · exact ⟨cs, blk_far h1 e, h2⟩
/-- What Spoil may do: blocks of ints from b on below hi. -/
structure Spl (b hi : Nat) (w w' : World) : Prop where
  bel : Below b w w'
  fr : Fr hi w w'
  ints : ∀ g n, IntB w g n → IntB w' g n
  typ : ∀ t, 3 ≠ t → Kp t w w'
theorem Spl.refl (b hi : Nat) (w : World) : Spl b hi w w := ⟨Below.refl _ _, Fr.refl _ _, fun _ _ h => h, fun _ _ => Kp.refl _ _⟩
theorem Spl.trans {b hi : Nat} {w w' w'' : World} (h : Spl b hi w w') (k : Spl b hi w' w'') : Spl b hi w w'' := ⟨h.bel.trans k.bel, h.fr.trans k.fr, fun g n hg => k.ints g n (h.ints g n hg), fun t ht => (h.typ t ht).trans (k.typ t ht)⟩
theorem Spl.ofBelow {b hi : Nat} {w w' : World} (h : Below w.heap.size w w') (hb : b ≤ w.heap.size) : Spl b hi w w' := ⟨h.mono hb, Fr.below h, fun _ _ hg => hg.bl h, fun _ _ => Kp.below h⟩
theorem Spl.set {b hi : Nat} {w : World} {g i : Nat} {cs : Array Value} (hg : w.heap[g]? = some (.cells cs 3 (0, 0))) (h1 : b ≤ g) (h2 : g < hi) (z : Int) : Spl b hi w (w.setCell ⟨g, i, none⟩ (.int .i64 z)) :=
  ⟨(Below.refl _ _).setCell (p := ⟨g, i, none⟩) h1 _, Fr.set h2 _, fun _ _ h => h.set z, fun t ht => (Kp.refl t w).set (p := ⟨g, i, none⟩) hg ht _⟩
/-- A form that Spoil may change. -/
def SpF (w : World) (b hi : Nat) (A : Option Addr) (n : Nat) : Prop := 0 < n → ∃ g, A = some ⟨g, 0, none⟩ ∧ b ≤ g ∧ g < hi ∧ IntB w g n
theorem SpF.sp {w w' : World} {b hi n : Nat} {A : Option Addr} (h : SpF w b hi A n) (k : Spl b hi w w') : SpF w' b hi A n := fun hn => by
  obtain ⟨g, e, h1, h2, h3⟩ := h hn
  exact ⟨g, e, h1, h2, k.ints g n h3⟩
theorem SpF.of {w : World} {b n : Nat} {A : Option Addr} {ds : List Int} (h : RdI w 3 .i64 A n ds) (k : Wi w b A n) : SpF w b w.heap.size A n := fun hn => by
  obtain ⟨g, off, cs, fr, e, hg, hc⟩ := h.2.2 hn
  obtain ⟨g', cs', e', hb, hg'⟩ := k hn
  rw [e] at e'
  cases e'
  rw [hg] at hg'
  cases hg'
  exact ⟨g, e, hb, blk_lt hg, cs, hg, fun j hj => ⟨ds.getD j 0, by have := hc j hj; rwa [Nat.zero_add] at this⟩⟩
theorem SpF.hi {w : World} {b hi hi' n : Nat} {A : Option Addr} (h : SpF w b hi A n) (hh : hi ≤ hi') : SpF w b hi' A n := fun hn => by
  obtain ⟨g, e, h1, h2, h3⟩ := h hn
  exact ⟨g, e, h1, by omega, h3⟩
/-- Forms that Spoil may change. -/
def SpFs (w : World) (b hi : Nat) (A : Option Addr) (m : Nat) : Prop := 0 < m → ∃ g cs, A = some ⟨g, 0, none⟩ ∧ w.heap[g]? = some (.cells cs 30 (0, 0)) ∧ ∀ j, j < m → ∃ A' n' c' a, cs[j * 2]? = some (.slice A' n' c') ∧ cs[j * 2 + 1]? = some (.int .i64 a) ∧ n' ≤ 9223372036854775807 ∧ SpF w b hi A' n'
theorem SpFs.sp {w w' : World} {b hi m : Nat} {A : Option Addr} (h : SpFs w b hi A m) (k : Spl b hi w w') : SpFs w' b hi A m := fun hm => by
  obtain ⟨g, cs, e, hg, hc⟩ := h hm
  refine ⟨g, cs, e, (k.typ 30 (by decide)).blk _ _ _ hg, fun j hj => ?_⟩
  obtain ⟨A', n', c', a, h1, h2, h3, h4⟩ := hc j hj
  exact ⟨A', n', c', a, h1, h2, h3, h4.sp k⟩
theorem SpFs.of {w : World} {b m c : Nat} {A : Option Addr} {F : List Fm} (h : FoB b w A m c F) : SpFs w b w.heap.size A m := fun hm => by
  obtain ⟨A', c', e, h1, h2, _, h3⟩ := h.2.rd (KFb.ok b)
  cases e
  obtain ⟨g, cs, e, hg, hc⟩ := h3 hm
  refine ⟨g, cs, e, hg, fun j hj => ?_⟩
  obtain ⟨y, hy, hi⟩ := hc j hj
  have k0 := hy 0 (show 0 < 2 by decide)
  have k1 := hy 1 (show 1 < 2 by decide)
  subst e
  rw [Nat.add_zero, (blk_cell hg _).1] at k0
  rw [(blk_cell hg _).1] at k1
  exact ⟨y.A, y.n, y.c, y.a, k0, k1, hi.1.2.1, SpF.of hi.1 hi.2.1⟩
theorem SpFs.bl {w w' : World} {b hi m : Nat} {A : Option Addr} (h : SpFs w b hi A m) (k : Below w.heap.size w w') (hb : b ≤ w.heap.size) : SpFs w' b hi A m := h.sp (Spl.ofBelow k hb)
theorem SpFs.hi {w : World} {b hi hi' m : Nat} {A : Option Addr} (h : SpFs w b hi A m) (hh : hi ≤ hi') : SpFs w b hi' A m := fun hm => by
  obtain ⟨g, cs, e, hg, hc⟩ := h hm
  refine ⟨g, cs, e, hg, fun j hj => ?_⟩
  obtain ⟨A', n', c', a, h1, h2, h3, h4⟩ := hc j hj
  exact ⟨A', n', c', a, h1, h2, h3, h4.hi hh⟩
theorem SpF.lo {w : World} {b b' hi n : Nat} {A : Option Addr} (h : SpF w b hi A n) (hh : b' ≤ b) : SpF w b' hi A n := fun hn => by
  obtain ⟨g, e, h1, h2, h3⟩ := h hn
  exact ⟨g, e, by omega, h2, h3⟩
theorem SpFs.lo {w : World} {b b' hi m : Nat} {A : Option Addr} (h : SpFs w b hi A m) (hh : b' ≤ b) : SpFs w b' hi A m := fun hm => by
  obtain ⟨g, cs, e, hg, hc⟩ := h hm
  refine ⟨g, cs, e, hg, fun j hj => ?_⟩
  obtain ⟨A', n', c', a, h1, h2, h3, h4⟩ := hc j hj
  exact ⟨A', n', c', a, h1, h2, h3, h4.lo hh⟩
end Go.Proofs.Ytjmbpeniibdnoaa
