/- Forms in memory; lin: Whole, dim, all, ValidForm, forms. lin: Row. lin: rows. lin: Out. Slices of structures of the call's own: forms, numbers, rationals. slices: Clone of a slice of rationals; exact: Row.Primitive's parts. Slices of integers of package exact of the call's own. A region that draws its order and ends in one store: the condition on the world is asked only ahead of the store. -/
import Derived.Test.YtjmbpeniibdnoaaRowA
import Derived.Lib.SliceRun
import Derived.OrdersHeld
import Derived.StillTail
set_option linter.unusedVariables false
set_option linter.unusedSimpArgs false
namespace Go.Proofs.Ytjmbpeniibdnoaa
open Go.RowKit

/-- A form: the coefficients and the constant. -/
abbrev Fm := List Int × Int
def I64F (f : Fm) : Prop := (∀ x ∈ f.1, -9223372036854775808 ≤ x ∧ x ≤ 9223372036854775807) ∧ -9223372036854775808 ≤ f.2 ∧ f.2 ≤ 9223372036854775807
def mid (x : Int) : Prop := -1152921504606846976 ≤ x ∧ x ≤ 1152921504606846976
instance (x : Int) : Decidable (mid x) := by unfold mid; infer_instance
def dimO (n : Int) : Prop := 0 ≤ n ∧ n ≤ 8
instance (n : Int) : Decidable (dimO n) := by unfold dimO; infer_instance
def mids (l : List Int) : Prop := ∀ x ∈ l, mid x
instance (l : List Int) : Decidable (mids l) := by unfold mids; infer_instance
/-- A valid form. -/
def OkF (n : Int) (f : Fm) : Prop := dimO n ∧ (f.1.length : Int) = n ∧ mid f.2 ∧ mids f.1
instance (n : Int) (f : Fm) : Decidable (OkF n f) := by unfold OkF; infer_instance
def OkFs (n : Int) (F : List Fm) : Prop := dimO n ∧ F.length ≤ 120 ∧ ∀ f ∈ F, OkF n f
instance (n : Int) (F : List Fm) : Decidable (OkFs n F) := by unfold OkFs; infer_instance
theorem mem_getD {α : Type _} {l : List α} {d : α} {k : Nat} (h : k < l.length) : l.getD k d ∈ l := by
  rw [List.getD_eq_getElem?_getD, List.getElem?_eq_getElem h]; exact List.getElem_mem _
theorem all_of_getD {α : Type _} {p : α → Prop} {l : List α} {d : α} (h : ∀ k, k < l.length → p (l.getD k d)) : ∀ x ∈ l, p x := by
  intro x hx
  obtain ⟨k, hk, rfl⟩ := List.getElem_of_mem hx
  have := h k hk
  rw [List.getD_eq_getElem?_getD, List.getElem?_eq_getElem hk] at this
  exact this
/-- A slice of integers that is read, whatever the block's type. -/
def RdC (w : World) (A : Option Addr) (n : Nat) (ds : List Int) : Prop :=
  ds.length = n ∧ n ≤ 9223372036854775807 ∧ (0 < n → ∃ g off, A = some ⟨g, off, none⟩ ∧ g < w.heap.size ∧ ∀ j, j < n → w.cell? ⟨g, off + j, none⟩ = some (.int .i64 (ds.getD j 0)))
theorem RdC.below {w w' : World} {A : Option Addr} {n : Nat} {ds : List Int} (h : RdC w A n ds) (hb : Below w.heap.size w w') : RdC w' A n ds := by
  refine ⟨h.1, h.2.1, fun hn => ?_⟩
  obtain ⟨g, off, e, hg, hc⟩ := h.2.2 hn
  exact ⟨g, off, e, Nat.lt_of_lt_of_le hg hb.size, fun j hj => ((cells_below hb).1 g _ hg).trans (hc j hj)⟩
theorem RdC.at_ {w : World} {A : Option Addr} {n : Nat} {ds : List Int} (h : RdC w A n ds) (hn : 0 < n) : ∃ g off, A = some ⟨g, off, none⟩ ∧ g < w.heap.size ∧ ∀ j, j < n → w.cell? ⟨g, off + j, none⟩ = some (.int .i64 (ds.getD j 0)) := h.2.2 hn
theorem RdI.toC {w : World} {A : Option Addr} {n : Nat} {ds : List Int} (h : RdI w 3 .i64 A n ds) : RdC w A n ds := ⟨h.1, h.2.1, fun hn => h.at_ hn⟩
theorem RdC.nil (w : World) (A : Option Addr) : RdC w A 0 [] := ⟨rfl, by omega, fun h => absurd h (by omega)⟩
/-- A slice of forms that is read. -/
def RdF (w : World) (A : Option Addr) (m : Nat) (F : List Fm) : Prop :=
  F.length = m ∧ m ≤ 9223372036854775807 ∧ (0 < m → ∃ g off, A = some ⟨g, off, none⟩ ∧ g < w.heap.size ∧ ∀ j, j < m → ∃ A' n c, w.cell? ⟨g, off + j * 2, none⟩ = some (.slice A' n c) ∧ w.cell? ⟨g, off + j * 2 + 1, none⟩ = some (.int .i64 (F.getD j ([], 0)).2) ∧ RdC w A' n (F.getD j ([], 0)).1)
theorem RdF.below {w w' : World} {A : Option Addr} {m : Nat} {F : List Fm} (h : RdF w A m F) (hb : Below w.heap.size w w') : RdF w' A m F := by
  refine ⟨h.1, h.2.1, fun hn => ?_⟩
  obtain ⟨g, off, e, hg, hc⟩ := h.2.2 hn
  refine ⟨g, off, e, Nat.lt_of_lt_of_le hg hb.size, fun j hj => ?_⟩
  obtain ⟨A', n, c, h1, h2, h3⟩ := hc j hj
  exact ⟨A', n, c, by rw [(cells_below hb).1 g _ hg]; exact h1, by rw [(cells_below hb).1 g _ hg]; exact h2, h3.below hb⟩
theorem RdF.nil (w : World) (A : Option Addr) : RdF w A 0 [] := ⟨rfl, by omega, fun h => absurd h (by omega)⟩

set_option maxHeartbeats 40000000
set_option maxRecDepth 100000
theorem lwhole_calls (x : Int) (w : World) :
    Calls Try.prog 50 #[.int .i64 x] w fun e w' => e = .returned (.bool (decide (mid x))) ∧ Below w.heap.size w w' := by
  by_cases h1 : -1152921504606846976 ≤ x
  · by_cases h2 : x ≤ 1152921504606846976
    · rw [show decide (mid x) = true from decide_eq_true ⟨h1, h2⟩]
      go_enter Try.func50, Try.ntmps50
      go_wp2
      go_ret
      exact ⟨rfl, Below.refl _ _⟩
    · rw [show decide (mid x) = false from decide_eq_false fun h => h2 h.2]
      go_enter Try.func50, Try.ntmps50
      go_wp2
      go_ret
      exact ⟨rfl, Below.refl _ _⟩
  · rw [show decide (mid x) = false from decide_eq_false fun h => h1 h.1]
    go_enter Try.func50, Try.ntmps50
    go_wp2
    go_ret
    exact ⟨rfl, Below.refl _ _⟩
theorem dim_calls (x : Int) (w : World) :
    Calls Try.prog 49 #[.int .i64 x] w fun e w' => e = .returned (.bool (decide (dimO x))) ∧ Below w.heap.size w w' := by
  by_cases h1 : 0 ≤ x
  · by_cases h2 : x ≤ 8
    · rw [show decide (dimO x) = true from decide_eq_true ⟨h1, h2⟩]
      go_enter Try.func49, Try.ntmps49
      go_wp2
      go_ret
      exact ⟨rfl, Below.refl _ _⟩
    · rw [show decide (dimO x) = false from decide_eq_false fun h => h2 h.2]
      go_enter Try.func49, Try.ntmps49
      go_wp2
      go_ret
      exact ⟨rfl, Below.refl _ _⟩
  · rw [show decide (dimO x) = false from decide_eq_false fun h => h1 h.1]
    go_enter Try.func49, Try.ntmps49
    go_wp2
    go_ret
    exact ⟨rfl, Below.refl _ _⟩
theorem allint_calls (A : Option Addr) (n c : Nat) (l : List Int) (w : World) (h : RdC w A n l) :
    Calls Try.prog 51 #[.slice A n c, .func (.func 50) #[] #[]] w fun e w' => e = .returned (.bool (decide (mids l))) ∧ Below w.heap.size w w' := by
  have L := Lib.hid h.1
  have hn := h.2.1
  generalize hB : decide (mids l) = B
  have HB := Lib.hid hB
  clear hB
  go_enter Try.func51, Try.ntmps51
  go_wp2_with fail
  go_loopw [9] (fun i wr => ∃ k : Nat, k ≤ n ∧ i = .int .i64 k ∧ (∀ j, j < k → mid (l.getD j 0)) ∧ Below w.heap.size w wr) (fun i _ => n - (intOf i).toNat)
  case atStart => exact ⟨0, Nat.zero_le _, rfl, fun j hj => absurd hj (by omega), Below.refl _ _⟩
  case round =>
    obtain ⟨k, hk, rfl, hall, hBw⟩ := hrel
    have HALL := Lib.hid hall
    clear hall
    by_cases hlt : k < n
    · obtain ⟨g, off, rfl, hg, hc⟩ := (h.below hBw).at_ (by omega)
      have c1 := hc k hlt
      clear hc h
      generalize hx1 : l.getD k 0 = x1 at *
      have HX1 := Lib.hid hx1
      clear hx1
      go_wp2_with fail
      refine (lwhole_calls x1 _).mono ?_
      rintro e w1 ⟨he, hB1⟩
      replace hBw := bl_then hBw hB1
      clear hB1 c1
      by_cases hok : mid x1
      · rw [decide_eq_true hok] at he
        subst he
        replace hok := Lib.hid hok
        go_wp2
        go_roundw
        case rel =>
          refine ⟨k + 1, hlt, by go_num, ?_, hBw⟩
          intro j hj
          rcases Nat.lt_or_ge j k with h1 | h1
          · exact HALL.out j h1
          · have : j = k := by omega
            subst this
            rw [HX1.out]
            exact hok.out
        case measure => simp [intOf]; omega
      · rw [decide_eq_false hok] at he
        subst he
        have hf : B = false := by
          rw [← HB.out, decide_eq_false]
          intro hh
          have := hh _ (mem_getD (d := 0) (by rw [L.out]; exact hlt) : l.getD k 0 ∈ l)
          rw [HX1.out] at this
          exact hok this
        subst hf
        go_wp2
        go_ret
        exact ⟨rfl, hBw⟩
    · have hf : B = true := by
        rw [← HB.out, decide_eq_true]
        exact all_of_getD fun j hj => HALL.out j (by rw [L.out] at hj; omega)
      subst hf
      go_wp2
      go_ret
      exact ⟨rfl, hBw⟩
theorem validform_calls (n : Int) (A : Option Addr) (m c : Nat) (f : Fm) (w : World) (h : RdC w A m f.1) :
    Calls Try.prog 21 #[.int .i64 n, .agg #[.slice A m c, .int .i64 f.2]] w fun e w' => e = .returned (.bool (decide (OkF n f))) ∧ Below w.heap.size w w' := by
  have L := Lib.hid h.1
  generalize hB : decide (OkF n f) = B
  have HB := Lib.hid hB
  clear hB
  have NO : ¬ OkF n f → B = false := fun h => by rw [← HB.out, decide_eq_false h]
  have YES : OkF n f → B = true := fun h => by rw [← HB.out, decide_eq_true h]
  obtain ⟨l, a⟩ := f
  dsimp only at *
  go_enter Try.func21, Try.ntmps21
  go_wp2_with fail
  have B0 := bl_alloc (Below.refl w.heap.size w) (.cells #[.slice A m c, .int .i64 a] 30)
  have a1 : (w.alloc (.cells #[.slice A m c, .int .i64 a] 30)).heap[w.heap.size]? = some (.cells #[.slice A m c, .int .i64 a] 30 (0, 0)) := blk_at _ rfl
  generalize w.alloc (.cells #[.slice A m c, .int .i64 a] 30) = W0 at *
  refine (dim_calls n _).mono ?_
  rintro e w1 ⟨he, hB1⟩
  replace a1 := blk_below a1 hB1
  replace B0 := bl_then B0 hB1
  clear hB1
  have c1 := (blk_cell a1 0).1
  have c2 := (blk_cell a1 1).1
  by_cases hd : dimO n
  · rw [decide_eq_true hd] at he
    subst he
    by_cases hl : (m : Int) = n
    · have hl' : decide ((m : Int) = n) = true := decide_eq_true hl
      go_wp2_with fail
      refine (lwhole_calls a _).mono ?_
      rintro e w2 ⟨he, hB1⟩
      replace a1 := blk_below a1 hB1
      replace B0 := bl_then B0 hB1
      clear hB1 c1 c2
      have c1 := (blk_cell a1 0).1
      have c2 := (blk_cell a1 1).1
      by_cases ha : mid a
      · rw [decide_eq_true ha] at he
        subst he
        go_wp2_with fail
        refine (allint_calls A m c l _ (h.below B0)).mono ?_
        rintro e w3 ⟨he, hB1⟩
        replace B0 := bl_then B0 hB1
        clear hB1 c1 c2
        have : decide (mids l) = B := by
          rw [← HB.out]
          apply decide_eq_decide.2
          exact ⟨fun hm => ⟨hd, by show (l.length : Int) = n; rw [L.out]; exact hl, ha, hm⟩, fun hm => hm.2.2.2⟩
        rw [this] at he
        subst he
        go_wp2
        go_ret
        exact ⟨rfl, B0⟩
      · rw [decide_eq_false ha] at he
        subst he
        have hf := NO fun hh => ha hh.2.2.1
        subst hf
        go_wp2
        go_ret
        exact ⟨rfl, B0⟩
    · have hf := NO fun hh => hl (by have := hh.2.1; dsimp only at this; rw [L.out] at this; exact this)
      subst hf
      have hl' : decide ((m : Int) = n) = false := decide_eq_false hl
      go_wp2
      go_ret
      exact ⟨rfl, B0⟩
  · rw [decide_eq_false hd] at he
    subst he
    have hf := NO fun hh => hd hh.1
    subst hf
    go_wp2
    go_ret
    exact ⟨rfl, B0⟩
end Go.Proofs.Ytjmbpeniibdnoaa

namespace Go.Proofs.Ytjmbpeniibdnoaa
open Go.RowKit

/-- A form as a row. -/
def rowF (f : Fm) : Rw := (f.1.map fun x => ((x : Int) : Rat), (f.2 : Rat))
theorem qx2 {w : World} {g : Nat} {t : TypeId} {a b : Value} (h : w.heap[g]? = some (.cells #[a, b] t (0, 0))) : w.cell? ⟨g, 0, none⟩ = some a ∧ w.cell? ⟨g, 1, none⟩ = some b := ⟨(blk_cell h 0).1, (blk_cell h 1).1⟩
set_option maxHeartbeats 40000000
set_option maxRecDepth 100000
theorem lrow_calls (A : Option Addr) (n c : Nat) (f : Fm) (w : World) (h : RdC w A n f.1) (hi : I64F f) (hn : n ≤ 1000000) :
    Calls Try.prog 23 #[.agg #[.slice A n c, .int .i64 f.2]] w fun e w' => RowR e w' false (rowF f) ∧ Below w.heap.size w w' := by
  have LN := Lib.hid h.1
  have f20 := hi.2.1
  have f21 := hi.2.2
  have HI := Lib.hid hi
  clear hi
  go_enter Try.func23, Try.ntmps23
  go_upto_region 1 with (fail)
  have B0 := bl_alloc (bl_alloc (Below.refl w.heap.size w) (.cells #[.slice A n c, .int .i64 f.2] 30)) (.cells #[.slice none 0 0, .int .i64 0, .slice none 0 0, .int .i64 0, .slice none 0 0, .bool false] 65)
  have a1 : ((w.alloc (.cells #[.slice A n c, .int .i64 f.2] 30)).alloc (.cells #[.slice none 0 0, .int .i64 0, .slice none 0 0, .int .i64 0, .slice none 0 0, .bool false] 65)).heap[w.heap.size]? = some (.cells #[.slice A n c, .int .i64 f.2] 30 (0, 0)) := blk_alloc (blk_at _ rfl) _
  have a2 : ((w.alloc (.cells #[.slice A n c, .int .i64 f.2] 30)).alloc (.cells #[.slice none 0 0, .int .i64 0, .slice none 0 0, .int .i64 0, .slice none 0 0, .bool false] 65)).heap[w.heap.size + 1]? = some (.cells #[.slice none 0 0, .int .i64 0, .slice none 0 0, .int .i64 0, .slice none 0 0, .bool false] 65 (0, 0)) := blk_at _ (by simp)
  generalize (w.alloc (.cells #[.slice A n c, .int .i64 f.2] 30)).alloc (.cells #[.slice none 0 0, .int .i64 0, .slice none 0 0, .int .i64 0, .slice none 0 0, .bool false] 65) = W0 at *
  obtain ⟨cs, hcs, qm⟩ := made_q n hn
  go_cut [3, 12] (fun p p11 wc => ∃ (gs go : Nat) (v5 : Int) (A5 : Option Addr) (n5 c5 : Nat) (v5' : Int) (A5' : Option Addr) (n5' c5' : Nat), p = .pointer (some ⟨go, 0, none⟩) ∧ p11 = .slice (some ⟨gs, 0, none⟩) n n ∧ OwnQ wc w.heap.size gs n n (List.replicate n 0) ∧ wc.heap[go]? = some (.cells #[.slice (some ⟨gs, 0, none⟩) n n, .int .i64 v5, .slice A5 n5 c5, .int .i64 v5', .slice A5' n5' c5', .bool false] 65 (0, 0)) ∧ RatV wc v5 A5 n5 c5 v5' A5' n5' c5' (f.2 : Rat) ∧ wc.heap[w.heap.size]? = some (.cells #[.slice A n c, .int .i64 f.2] 30 (0, 0)) ∧ wc.heap[w.heap.size + 1]? = some (.cells #[.slice none 0 0, .int .i64 0, .slice none 0 0, .int .i64 0, .slice none 0 0, .bool false] 65 (0, 0)) ∧ Below w.heap.size w wc ∧ w.heap.size + 1 < gs ∧ w.heap.size + 1 < go ∧ gs ≠ go)
  case first =>
    have lw : w.heap.size ≤ W0.heap.size := by have := blk_lt a1; omega
    have l3 := blk_lt a2
    have a1_0 := a1
    have a2_0 := a2
    have HB_0 := B0
    go_region_held3 (fun W => W.cell? ⟨w.heap.size, 0, none⟩ = some (Value.slice A n c) ∧ W.cell? ⟨w.heap.size, 1, none⟩ = some (Value.int .i64 f.2)) (first | (refine qx2 (t := 30) ?_ <;> (repeat (first | with_reducible exact a1_1 | with_reducible exact a1_0 | with_reducible refine blk_alloc ?_ _ | with_reducible refine blk_drew ?_ | with_reducible refine q6_far ?_ ?_ _ _ _ _ _ _ | omega)); done) | go_keep) (first | (go_at_call 37; refine (wholei_calls f.2 _ f20 f21).mono ?_; rintro e ww ⟨⟨v5, A5, n5, c5, v5', A5', n5', c5', rfl, t5⟩, hB5⟩; have a1_1 : ww.heap[w.heap.size]? = some (.cells #[.slice A n c, .int .i64 f.2] 30 (0, 0)) := (by repeat (first | with_reducible exact a1_0 | with_reducible refine blk_below ?_ hB5 | with_reducible refine blk_alloc ?_ _ | with_reducible refine blk_drew ?_)); have a2_1 : ww.heap[w.heap.size + 1]? = some (.cells #[.slice none 0 0, .int .i64 0, .slice none 0 0, .int .i64 0, .slice none 0 0, .bool false] 65 (0, 0)) := (by repeat (first | with_reducible exact a2_0 | with_reducible refine blk_below ?_ hB5 | with_reducible refine blk_alloc ?_ _ | with_reducible refine blk_drew ?_)); have HB_1 : Below w.heap.size w ww := (by repeat (first | with_reducible exact HB_0 | with_reducible refine bl_then ?_ hB5 | with_reducible refine bl_alloc ?_ _ | with_reducible refine bl_drew ?_)); have l4 := blk_lt a2_1; (first  | (have EM : OwnQ ww w.heap.size W0.heap.size n n (List.replicate n 0) := OwnQ.below (OwnQ.drew (OwnQ.made_at n rfl lw hn cs hcs)) hB5; have lM := EM.ge.2; have EX := q6 (blk_at (W := ww) (.cells #[.slice none 0 0, .int .i64 0, .slice none 0 0, .int .i64 0, .slice none 0 0, .bool false] 65) rfl); obtain ⟨⟨e1, e2, e3, e4, e5, e6⟩, e7, e8, e9, e10, e11, e12⟩ := EX)  | (have EM : OwnQ ww w.heap.size W0.heap.size n n (List.replicate n 0) := OwnQ.below (OwnQ.drew (OwnQ.alloc (OwnQ.made_at n rfl lw hn cs hcs) _)) hB5; have EA : ww.heap[W0.heap.size + 1]? = some (.cells #[.slice none 0 0, .int .i64 0, .slice none 0 0, .int .i64 0, .slice none 0 0, .bool false] 65 (0, 0)) := blk_below (blk_drew (blk_at _ (by simp))) hB5; have lA := blk_lt EA; (try have lM := EM.ge.2); have EX := q6 EA; obtain ⟨⟨e1, e2, e3, e4, e5, e6⟩, e7, e8, e9, e10, e11, e12⟩ := EX)  | (have EM : OwnQ ww w.heap.size (W0.heap.size + 1) n n (List.replicate n 0) := OwnQ.below (OwnQ.drew (OwnQ.made_at (W := W0.alloc (.cells #[.slice none 0 0, .int .i64 0, .slice none 0 0, .int .i64 0, .slice none 0 0, .bool false] 65)) n (by simp) (by simp; omega) hn cs hcs)) hB5; have EA : ww.heap[W0.heap.size]? = some (.cells #[.slice none 0 0, .int .i64 0, .slice none 0 0, .int .i64 0, .slice none 0 0, .bool false] 65 (0, 0)) := blk_below (blk_drew (blk_alloc (blk_at _ rfl) _)) hB5; have lA := blk_lt EA; (try have lM := EM.ge.2); have EX := q6 EA; obtain ⟨⟨e1, e2, e3, e4, e5, e6⟩, e7, e8, e9, e10, e11, e12⟩ := EX)  | (have EA : ww.heap[W0.heap.size]? = some (.cells #[.slice none 0 0, .int .i64 0, .slice none 0 0, .int .i64 0, .slice none 0 0, .bool false] 65 (0, 0)) := blk_below (blk_drew (blk_at _ rfl)) hB5; have lA := blk_lt EA; (try have lM := EM.ge.2); have EX := q6 EA; obtain ⟨⟨e1, e2, e3, e4, e5, e6⟩, e7, e8, e9, e10, e11, e12⟩ := EX; have EY := q6 (blk_alloc EA (.cells cs 63)); obtain ⟨⟨i1, i2, i3, i4, i5, i6⟩, i7, i8, i9, i10, i11, i12⟩ := EY)  | (have EX := q6 (blk_alloc (blk_at (W := ww) (.cells #[.slice none 0 0, .int .i64 0, .slice none 0 0, .int .i64 0, .slice none 0 0, .bool false] 65) rfl) (.cells cs 63)); obtain ⟨⟨e1, e2, e3, e4, e5, e6⟩, e7, e8, e9, e10, e11, e12⟩ := EX))) | fail)
    all_goals
      go_wp2
      go_meet
      case rel =>
        refine ⟨_, _, v5, A5, n5, c5, v5', A5', n5', c5', rfl, rfl, ?_, ?_, ?_, ?_, ?_, ?_, ?_, ?_, ?_⟩
        · first
            | with_reducible exact OwnQ.alloc (OwnQ.made_at n rfl (by omega) hn cs hcs) _
            | with_reducible exact OwnQ.alloc EM _
            | with_reducible exact OwnQ.st6 EM EA (by omega) _ _ _ _ _ _
            | with_reducible exact OwnQ.made_at n (by simp) (by simp; omega) hn cs hcs
        · first
            | with_reducible exact q6_set EA _ _ _ _ _ _
            | with_reducible exact blk_alloc (q6_set EA _ _ _ _ _ _) _
            | with_reducible exact blk_alloc (blk_at _ rfl) _
            | with_reducible exact blk_at _ (by first | rfl | simp)
        · first
            | with_reducible exact RatV.al t5 _
            | with_reducible exact RatV.al (RatV.al t5 _) _
            | with_reducible exact RV.st6 t5 EA _ _ _ _ _ _
            | with_reducible exact RatV.al (RV.st6 t5 EA _ _ _ _ _ _) _
        · repeat (first | with_reducible exact a1_1 | with_reducible refine blk_alloc ?_ _ | with_reducible refine q6_far ?_ ?_ _ _ _ _ _ _ | omega)
        · repeat (first | with_reducible exact a2_1 | with_reducible refine blk_alloc ?_ _ | with_reducible refine q6_far ?_ ?_ _ _ _ _ _ _ | omega)
        · repeat (first | with_reducible exact HB_1 | with_reducible refine bl_alloc ?_ _ | with_reducible refine q6_bl ?_ ?_ _ _ _ _ _ _ | omega)
        · omega
        · omega
        · omega
  case rest =>
    clear a1 a2 B0
    obtain ⟨gs, go, v5, A5, n5, c5, v5', A5', n5', c5', rfl, rfl, OQ, a4, T5, a1, a2, B0, lgs, lgo, hne⟩ := hcut
    have hng := upto_zero (fun j => ((f.1.getD j 0 : Int) : Rat)) n
    rw [hng] at OQ
    clear hng
    have f1 := (blk_cell a1 0).1
    go_wp2_with fail
    clear f1
    go_loopw [17] (fun i wr => ∃ kk : Nat, kk ≤ n ∧ i = .int .i64 kk ∧ OwnQ wr w.heap.size gs n n (upto (fun j => ((f.1.getD j 0 : Int) : Rat)) n kk) ∧ wr.heap[go]? = some (.cells #[.slice (some ⟨gs, 0, none⟩) n n, .int .i64 v5, .slice A5 n5 c5, .int .i64 v5', .slice A5' n5' c5', .bool false] 65 (0, 0)) ∧ RatV wr v5 A5 n5 c5 v5' A5' n5' c5' (f.2 : Rat) ∧ wr.heap[w.heap.size]? = some (.cells #[.slice A n c, .int .i64 f.2] 30 (0, 0)) ∧ wr.heap[w.heap.size + 1]? = some (.cells #[.slice none 0 0, .int .i64 0, .slice none 0 0, .int .i64 0, .slice none 0 0, .bool false] 65 (0, 0)) ∧ Below w.heap.size w wr ∧ w.heap.size + 1 < gs ∧ w.heap.size + 1 < go ∧ gs ≠ go) (fun i _ => n - (intOf i).toNat)
    case atStart => exact ⟨0, Nat.zero_le _, rfl, OQ, a4, T5, a1, a2, B0, lgs, lgo, hne⟩
    case round =>
      clear OQ a4 T5 a1 a2 B0 lgs lgo
      obtain ⟨kk, hkk, rfl, OQ, a4, T5, a1, a2, B0, lgs, lgo, _⟩ := hrel
      by_cases hlt : kk < n
      · obtain ⟨g, off, rfl, hg, hc⟩ := (h.below B0).at_ (by omega)
        have p1 := hc kk hlt
        have hx := HI.out.1 _ (mem_getD (d := 0) (by rw [LN.out]; exact hlt) : f.1.getD kk 0 ∈ f.1)
        clear hc h
        have hk0 : (0 : Int) ≤ (kk : Int) := by omega
        have hkn : (kk : Int) < (n : Int) := by omega
        have lw4 := blk_lt a4
        have lws := OQ.ge.2
        generalize hx1 : f.1.getD kk 0 = x1 at *
        have HX1 := Lib.hid hx1
        obtain ⟨x10, x11⟩ := hx
        clear hx1
        go_upto_region 5 with (fail)
        have a1_0 := a1
        have a2_0 := a2
        have a4_0 := a4
        have HB_0 := B0
        go_region_held3 (fun W => W.cell? ⟨go, 0, none⟩ = some (Value.slice (some ⟨gs, 0, none⟩) n n) ∧ W.cell? ⟨go, 1, none⟩ = some (Value.int .i64 v5) ∧ W.cell? ⟨go, 2, none⟩ = some (Value.slice A5 n5 c5) ∧ W.cell? ⟨go, 3, none⟩ = some (Value.int .i64 v5') ∧ W.cell? ⟨go, 4, none⟩ = some (Value.slice A5' n5' c5') ∧ W.cell? ⟨go, 5, none⟩ = some (Value.bool false)) (first | (refine qx6 (t := 65) ?_ <;> (repeat (first | with_reducible exact a4_1 | with_reducible exact a4_0 | with_reducible refine blk_alloc ?_ _ | with_reducible refine blk_drew ?_ | with_reducible refine q6_far ?_ ?_ _ _ _ _ _ _ | with_reducible refine q4_far ?_ ?_ _ _ _ _ | with_reducible refine At4.dr ?_ | with_reducible refine At4.st4 ?_ ?_ _ _ _ _ | with_reducible refine At4.al ?_ ?_ _ | omega)); done) | go_keep) (first | (go_at_call 37; refine (wholei_calls x1 _ x10 x11).mono ?_; rintro e ww ⟨⟨v6, A6, n6, c6, v6', A6', n6', c6', rfl, t6⟩, hB6⟩; have a4_1 : ww.heap[go]? = some (.cells #[.slice (some ⟨gs, 0, none⟩) n n, .int .i64 v5, .slice A5 n5 c5, .int .i64 v5', .slice A5' n5' c5', .bool false] 65 (0, 0)) := (by repeat (first | with_reducible exact a4_0 | with_reducible refine blk_below ?_ hB6 | with_reducible refine blk_alloc ?_ _ | with_reducible refine blk_drew ?_)); have a1_1 : ww.heap[w.heap.size]? = some (.cells #[.slice (some ⟨g, off, none⟩) n c, .int .i64 f.2] 30 (0, 0)) := (by repeat (first | with_reducible exact a1_0 | with_reducible refine blk_below ?_ hB6 | with_reducible refine blk_alloc ?_ _ | with_reducible refine blk_drew ?_)); have a2_1 : ww.heap[w.heap.size + 1]? = some (.cells #[.slice none 0 0, .int .i64 0, .slice none 0 0, .int .i64 0, .slice none 0 0, .bool false] 65 (0, 0)) := (by repeat (first | with_reducible exact a2_0 | with_reducible refine blk_below ?_ hB6 | with_reducible refine blk_alloc ?_ _ | with_reducible refine blk_drew ?_)); have HB_1 : Below w.heap.size w ww := (by repeat (first | with_reducible exact HB_0 | with_reducible refine bl_then ?_ hB6 | with_reducible refine bl_alloc ?_ _ | with_reducible refine bl_drew ?_)); have T5_1 := (by first | exact RatV.below T5 hB6 | exact RatV.below (RatV.dr T5) hB6); have OQ_1 := (by first | exact OwnQ.below OQ hB6 | exact OwnQ.below (OwnQ.drew OQ) hB6); have OX := OQ_1.at kk hlt; obtain ⟨z1, ⟨o1, o2, o3, o4⟩, _⟩ := OX; have o5 := OQ_1.frozen (kk * 4); have o6 := OQ_1.frozen (kk * 4 + 1); have o7 := OQ_1.frozen (kk * 4 + 2); have o8 := OQ_1.frozen (kk * 4 + 3); have lg := OQ_1.ge.2) | fail)
        all_goals
          have U1 := Lib.hid (OwnQ.set OQ_1 HB_1 (Nat.le_refl _) kk hlt _ _ _ _ _ _ _ _ _ t6)
          have U2 := OQ_1.blk
          obtain ⟨cs9, U3⟩ := U2
          go_wp2
          go_roundw
          case rel =>
            refine ⟨kk + 1, hlt, by go_num, ?_, ?_, ?_, ?_, ?_, U1.out.2, lgs, lgo, hne⟩
            · have h9 := U1.out.1
              rw [← HX1.out, upto_set (fun j => ((f.1.getD j 0 : Int) : Rat)) n kk hlt] at h9
              exact h9
            · exact q4_far a4_1 (by omega) _ _ _ _
            · exact RV.st4 T5_1 U3 _ _ _ _
            · exact q4_far a1_1 (by omega) _ _ _ _
            · exact q4_far a2_1 (by omega) _ _ _ _
          case measure => simp [intOf]; omega
      · have hkn : kk = n := by omega
        subst hkn
        rw [upto_full (fun j => ((f.1.getD j 0 : Int) : Rat)) kk (rowF f).1 (by show (f.1.map _).length = _; rw [List.length_map]; exact LN.out) (fun j hj => by show _ = (f.1.map fun x => ((x : Int) : Rat)).getD j 0; rw [getD_map (fun x => ((x : Int) : Rat)) f.1 j 0 0 (by rw [LN.out]; exact hj)])] at OQ
        obtain ⟨⟨f1, f2, f3, f4, f5, f6⟩, f7⟩ := q6 a4
        obtain ⟨⟨m1, m2, m3, m4, m5, m6⟩, m7⟩ := q6 a2
        have U1 := q6_set a2 (.slice (some ⟨gs, 0, none⟩) kk kk) (.int .i64 v5) (.slice A5 n5 c5) (.int .i64 v5') (.slice A5' n5' c5') (.bool false)
        have U2 := OQ.st6 a2 (by omega) (.slice (some ⟨gs, 0, none⟩) kk kk) (.int .i64 v5) (.slice A5 n5 c5) (.int .i64 v5') (.slice A5' n5' c5') (.bool false)
        have U3 := RV.st6 T5 a2 (.slice (some ⟨gs, 0, none⟩) kk kk) (.int .i64 v5) (.slice A5 n5 c5) (.int .i64 v5') (.slice A5' n5' c5') (.bool false)
        have U4 := q6_bl B0 (show w.heap.size ≤ w.heap.size + 1 by omega) (.slice (some ⟨gs, 0, none⟩) kk kk) (.int .i64 v5) (.slice A5 n5 c5) (.int .i64 v5') (.slice A5' n5' c5') (.bool false)
        go_wp2
        refine bodyPost_ret (results_cell_row rfl _ _ (w.heap.size + 1) 65 #[.slice (some ⟨gs, 0, none⟩) kk kk, .int .i64 v5, .slice A5 n5 c5, .int .i64 v5', .slice A5' n5' c5', .bool false] (0, 0) _ rfl U1 Try.underlying65 rfl (by kernel_rfl)) rfl ?_
        exact ⟨⟨_, kk, kk, ⟨v5, A5, n5, c5, v5', A5', n5', c5'⟩, rfl, OwnQ.rd U2 hn, U3⟩, U4⟩
end Go.Proofs.Ytjmbpeniibdnoaa

namespace Go.Proofs.Ytjmbpeniibdnoaa
open Go.RowKit

theorem RdW.one {W : World} {A : Option Addr} {n c : Nat} {x : RC} {b : Bool} {r : Rw} (h : RwV W A n x r) : RdW (W.alloc (.cells #[.slice A n c, .int .i64 x.v, .slice x.A x.n x.c, .int .i64 x.v', .slice x.A' x.n' x.c', .bool b] 65)) (some ⟨W.heap.size, 0, none⟩) 1 [r] := by
  have hb : (W.alloc (.cells #[.slice A n c, .int .i64 x.v, .slice x.A x.n x.c, .int .i64 x.v', .slice x.A' x.n' x.c', .bool b] 65)).heap[W.heap.size]? = some (.cells #[.slice A n c, .int .i64 x.v, .slice x.A x.n x.c, .int .i64 x.v', .slice x.A' x.n' x.c', .bool b] 65 (0, 0)) := blk_at _ rfl
  refine ⟨rfl, by omega, fun _ => ⟨_, 0, rfl, blk_lt hb, fun j hj => ?_⟩⟩
  have : j = 0 := by omega
  subst this
  exact ⟨A, n, c, x, b, (q6 hb).1, h.below (bl_alloc (Below.refl _ _) _)⟩
theorem map_take_succ {α β : Type} (g : α → β) (l : List α) (d : α) (k : Nat) (hk : k < l.length) : (l.take (k + 1)).map g = (l.take k).map g ++ [g (l.getD k d)] := by
  rw [List.take_add_one, List.getElem?_eq_getElem hk, List.map_append, List.getD_eq_getElem?_getD, List.getElem?_eq_getElem hk]; rfl

set_option maxHeartbeats 40000000
set_option maxRecDepth 100000
theorem rows_calls (A : Option Addr) (m c : Nat) (F : List Fm) (w : World) (h : RdF w A m F) (hi : ∀ f ∈ F, I64F f) (hl : ∀ f ∈ F, f.1.length ≤ 1000000) (hm : m ≤ 500) :
    Calls Try.prog 40 #[.slice A m c] w fun e w' => (∃ A' c', e = .returned (.slice A' m c') ∧ RdW w' A' m (F.map rowF)) ∧ Below w.heap.size w w' := by
  have L := Lib.hid h.1
  have HI := Lib.hid hi
  have HL := Lib.hid hl
  clear hi hl
  go_enter Try.func40, Try.ntmps40
  have O0 := OwnW.nil w w.heap.size
  have B0 := Below.refl w.heap.size w
  go_wp2_with fail
  go_loopw [3, 8] (fun v i wr => ∃ kk : Nat, kk ≤ m ∧ i = .int .i64 kk ∧ OwnW wr w.heap.size v kk ((F.take kk).map rowF) ∧ Below w.heap.size w wr) (fun _ i _ => m - (intOf i).toNat)
  case atStart => exact ⟨0, Nat.zero_le _, rfl, O0, B0⟩
  case round =>
    clear O0 B0
    obtain ⟨kk, hkk, rfl, OW, B0⟩ := hrel
    by_cases hlt : kk < m
    · obtain ⟨g, off, rfl, hg, hc⟩ := (h.below B0).2.2 (by omega)
      obtain ⟨A1, n1, c1', c1, c2, c3⟩ := hc kk hlt
      have hmem : F.getD kk ([], 0) ∈ F := mem_getD (by rw [L.out]; exact hlt)
      have h64 := HI.out _ hmem
      have hlen := HL.out _ hmem
      have E := Lib.hid (map_take_succ rowF F ([], 0) kk (by rw [L.out]; exact hlt))
      clear hc hmem
      generalize F.getD kk ([], 0) = f1 at *
      have c4 := c3.below (bl_alloc (Below.refl _ _) (.cells #[.slice A1 n1 c1', .int .i64 f1.2] 30))
      have c5 := Lib.hid c4.1
      replace OW := OW.below (bl_alloc (Below.refl _ _) (.cells #[.slice A1 n1 c1', .int .i64 f1.2] 30))
      replace B0 := bl_alloc B0 (.cells #[.slice A1 n1 c1', .int .i64 f1.2] 30)
      go_wp2_with fail
      refine (lrow_calls A1 n1 c1' f1 _ c4 h64 (by rw [← c5.out]; exact hlen)).mono ?_
      rintro e w1 ⟨⟨A2, n2, c2', x2, rfl, t2⟩, hB1⟩
      replace OW := OW.below hB1
      replace B0 := bl_then B0 hB1
      clear hB1 c1 c2 c3 c4 hg
      have r2 := RdW.one (c := c2') (b := false) t2
      replace OW := OW.below (bl_alloc (Below.refl _ _) (.cells #[.slice A2 n2 c2', .int .i64 x2.v, .slice x2.A x2.n x2.c, .int .i64 x2.v', .slice x2.A' x2.n' x2.c', .bool false] 65))
      have B1 := bl_alloc B0 (.cells #[.slice A2 n2 c2', .int .i64 x2.v, .slice x2.A x2.n x2.c, .int .i64 x2.v', .slice x2.A' x2.n' x2.c', .bool false] 65)
      obtain ⟨v', W', hrun, O2, hgr⟩ := appw (c := 1) OW r2 (by omega) (by omega) (by intro h; cases h) B1.size
      rw [← E.out] at O2
      have HR := Lib.hid hrun
      have HO := Lib.hid O2
      have hOB : ∀ b, u3.ownBlock = some b → w.heap.size ≤ b := fun b hb => (OW.choose_spec.1.lt b hb).1
      have V2 : Hid (Below w.heap.size w W') := Lib.hid (below_of_grown B1 hgr B1.size (fun b hb => by have := hOB b hb; omega))
      clear hrun O2 hgr hOB OW r2
      go_wp2_with (at_builtin; refine wpList_ap rfl (.tmp 12) (.tmp 15) 85 (by rfl) _ _ (by rfl) (by rfl) _ (by rfl) _ _ HR.out ?_)
      go_roundw
      case rel => exact ⟨kk + 1, hlt, by go_num, HO.out, V2.out⟩
      case measure => simp [intOf]; omega
    · have hkn : kk = m := by omega
      subst hkn
      obtain ⟨A', c', rfl, hrd⟩ := OW.rd (by omega)
      rw [List.take_of_length_le (by rw [L.out]; exact Nat.le_refl _)] at hrd
      have HRD := Lib.hid hrd
      clear OW hrd
      go_wp2
      go_ret
      exact ⟨⟨A', c', rfl, HRD.out⟩, B0⟩
end Go.Proofs.Ytjmbpeniibdnoaa

namespace Go.Proofs.Ytjmbpeniibdnoaa
open Go.RowKit

/-- A []int of the call's own. -/
def OwnI (w : World) (base g n cap : Nat) (xs : List Int) : Prop := w.ownsRow base 3 1 (.slice (some ⟨g, 0, none⟩) n cap) n (ints .i64 xs)
section
variable {w w' w0 : World} {base g k n cap B : Nat} {xs : List Int}
theorem OwnI.below (h : OwnI w base g n cap xs) (hb : Below w.heap.size w w') : OwnI w' base g n cap xs := own_alloc_below h hb
theorem OwnI.al (h : OwnI w base g n cap xs) (o : Obj) : OwnI (w.alloc o) base g n cap xs := h.below (bl_alloc (Below.refl _ _) o)
theorem OwnI.dr (h : OwnI w base g n cap xs) : OwnI w.drew base g n cap xs := h.below (bl_drew (Below.refl _ _))
theorem OwnI.far (h : OwnI w base g n cap xs) (e : w'.heap[g]? = w.heap[g]?) : OwnI w' base g n cap xs := own_heap h e
theorem OwnI.len (h : OwnI w base g n cap xs) : xs.length = n := own_len h
theorem OwnI.frozen (h : OwnI w base g n cap xs) (j : Nat) : w.frozen? ⟨g, j, none⟩ = false := h.frozenAt j
theorem OwnI.ge (h : OwnI w base g n cap xs) : base ≤ g ∧ g < w.heap.size := h.lt g rfl
theorem OwnI.at (h : OwnI w base g n cap xs) (j : Nat) (hj : j < n) : w.cell? ⟨g, j, none⟩ = some (.int .i64 (xs.getD j 0)) := (own_at h j hj).1
theorem OwnI.rd (h : OwnI w base g n cap xs) : RdI w 3 .i64 (some ⟨g, 0, none⟩) n xs := by
  obtain ⟨A, c, hv, _, hr, _⟩ := RdI.own h
  cases hv
  exact hr
theorem OwnI.set (h : OwnI w base g n cap xs) (HB : Below B w0 w) (hB : B ≤ base) (j : Nat) (x : Int) :
    OwnI (w.setCell ⟨g, j, none⟩ (.int .i64 x)) base g n cap (xs.set j x) ∧ Below B w0 (w.setCell ⟨g, j, none⟩ (.int .i64 x)) := own_set h HB hB j x
end
/-- The first k entries laid, the others 0. -/
def uptoi (f : Nat → Int) (n k : Nat) : List Int := (List.range n).map fun j => if j < k then f j else 0
theorem uptoi_len (f : Nat → Int) (n k : Nat) : (uptoi f n k).length = n := by simp [uptoi]
theorem uptoi_zero (f : Nat → Int) (n : Nat) : List.replicate n 0 = uptoi f n 0 := by
  apply List.ext_getElem?
  intro j
  unfold uptoi
  rw [List.getElem?_replicate, List.getElem?_map]
  by_cases h : j < n
  · rw [if_pos h, List.getElem?_range h]; simp
  · rw [if_neg h, List.getElem?_eq_none (by simp; omega)]; rfl
theorem uptoi_set (f : Nat → Int) (n k : Nat) (hk : k < n) : (uptoi f n k).set k (f k) = uptoi f n (k + 1) := by
  apply List.ext_getElem?
  intro j
  by_cases hj : j = k
  · subst hj
    rw [List.getElem?_set_self (by rw [uptoi_len]; exact hk)]
    unfold uptoi
    rw [List.getElem?_map, List.getElem?_range hk]; simp
  · rw [List.getElem?_set_ne (by omega)]
    unfold uptoi
    rw [List.getElem?_map, List.getElem?_map]
    by_cases h : j < n
    · rw [List.getElem?_range h]
      simp only [Option.map_some]
      by_cases h1 : j < k
      · rw [if_pos h1, if_pos (by omega)]
      · rw [if_neg h1, if_neg (by omega)]
    · rw [List.getElem?_eq_none (by simp; omega)]; rfl
theorem uptoi_full (f : Nat → Int) (n : Nat) (l : List Int) (hl : l.length = n) (h : ∀ j, j < n → f j = l.getD j 0) : uptoi f n n = l := by
  apply List.ext_getElem?
  intro j
  unfold uptoi
  rw [List.getElem?_map]
  by_cases hj : j < n
  · rw [List.getElem?_range hj, List.getElem?_eq_getElem (by omega)]
    simp only [Option.map_some, if_pos hj]
    rw [h j hj, List.getD_eq_getElem?_getD, List.getElem?_eq_getElem (by omega)]; rfl
  · rw [List.getElem?_eq_none (by simp; omega), List.getElem?_eq_none (by omega)]; rfl
/-- make([]int, n). -/
theorem made_i (n : Nat) (hn : n ≤ 1000000) : ∃ cs : Array Value, (∀ (W : World) (base g : Nat), g = W.heap.size → base ≤ W.heap.size → OwnI (W.alloc (.cells cs 3)) base g n n (List.replicate n 0)) ∧ ∀ W, (Instr.makeSlice 28 (.int .i64 (n : Nat)) (.int .i64 (n : Nat))).run Try.prog W = .ok (.slice (some ⟨W.heap.size, 0, none⟩) n n) (W.alloc (.cells cs 3)) := by
  have hinfo : (Try.prog.info? 3).map (fun i => (i.zero, i.size, i.bytes)) = some (some (.int .i64 0), 1, 8) := by kernel_rfl
  obtain ⟨i, hi, hz0, hz1, hz2⟩ := info_parts hinfo
  have hz : (madeCells #[Value.int .i64 0] (n * 1)).toList = ints .i64 (List.replicate n 0) := by
    apply List.ext_getElem?
    intro j
    unfold madeCells ints
    rw [List.getElem?_map, List.getElem?_replicate]
    by_cases h : j < n
    · rw [if_pos h]; simp [h, Nat.mod_one]
    · rw [if_neg h]; simp [h]
  have hs : (madeCells #[Value.int .i64 0] (n * 1)).size = n := by rw [size_madeCells, Nat.mul_one]
  generalize hcs : madeCells #[Value.int .i64 0] (n * 1) = cs at hz hs
  refine ⟨cs, fun W base g hg hb => ?_, fun W => ?_⟩
  · subst hg
    refine ⟨by rw [ints_length, List.length_replicate, Nat.mul_one], .inr ⟨W.heap.size, n, cs, rfl, hb, heap_alloc_new W _, Nat.le_refl _, by simp only [maxLen]; omega, by rw [hs, Nat.mul_one], by rw [List.take_of_length_le (by rw [Array.length_toList, hs]; omega), hz]⟩⟩
  · have h := run_make (P := Try.prog) W 28 3 i _ Try.underlying28 hi hz0 .i64 .i64 (n : Nat) (n : Nat) (by omega) (Int.le_refl _) (by rw [hz2]; omega) (by omega)
    rw [hz1, Int.toNat_natCast] at h
    rw [← hcs]
    exact h
/-- What lin.Out hands back. -/
def outW (r : Rw) : Fm := (r.1.map Rat.num, r.2.num)
def outOk (r : Rw) : Prop := mid r.2.num ∧ ∀ q ∈ r.1, mid q.num
instance (r : Rw) : Decidable (outOk r) := by unfold outOk; infer_instance
def outF (r : Rw) : Fm := if outOk r then outW r else ([], 0)
/-- A form as a result. -/
def FmR (v : Value) (w : World) (f : Fm) : Prop := ∃ (A : Option Addr) (n c : Nat), v = .agg #[.slice A n c, .int .i64 f.2] ∧ RdI w 3 .i64 A n f.1
theorem FmR.below {v : Value} {w w' : World} {f : Fm} (h : FmR v w f) (hb : Below w.heap.size w w') : FmR v w' f := by
  obtain ⟨A, n, c, rfl, h1⟩ := h
  exact ⟨A, n, c, rfl, h1.below hb⟩
theorem FmR.nil (w : World) : FmR (.agg #[.slice none 0 0, .int .i64 0]) w ([], 0) := ⟨none, 0, 0, rfl, RdI.nil _ _ _ _⟩
/-- A block of ints of the call's own, from b on. -/
def Wi (w : World) (b : Nat) (A : Option Addr) (n : Nat) : Prop := 0 < n → ∃ g cs, A = some ⟨g, 0, none⟩ ∧ b ≤ g ∧ w.heap[g]? = some (.cells cs 3 (0, 0))
theorem Wi.kp {w w' : World} {b n : Nat} {A : Option Addr} (h : Wi w b A n) (k : Kp 3 w w') : Wi w' b A n := fun hn => by
  obtain ⟨g, cs, e, hb, hg⟩ := h hn
  exact ⟨g, cs, e, hb, k.blk _ _ _ hg⟩
theorem Wi.below {w w' : World} {b n : Nat} {A : Option Addr} (h : Wi w b A n) (k : Below w.heap.size w w') : Wi w' b A n := h.kp (Kp.below k)
theorem Wi.mono {w : World} {b b' n : Nat} {A : Option Addr} (h : Wi w b A n) (hb : b' ≤ b) : Wi w b' A n := fun hn => by
  obtain ⟨g, cs, e, h1, hg⟩ := h hn
  exact ⟨g, cs, e, by omega, hg⟩
theorem Wi.nil (w : World) (b : Nat) (A : Option Addr) : Wi w b A 0 := fun h => absurd h (by omega)
theorem OwnI.wi {w : World} {base g n cap : Nat} {xs : List Int} (h : OwnI w base g n cap xs) : Wi w base (some ⟨g, 0, none⟩) n := fun hn => by
  rcases h.2 with ⟨e, _⟩ | ⟨g', cap', cur, e, hb, hg, _⟩
  · cases e
  · cases e; exact ⟨g, cur, rfl, hb, hg⟩
/-- A form as a result, its coefficients in a block from b on. -/
def FmB (b : Nat) (v : Value) (w : World) (f : Fm) : Prop := ∃ (A : Option Addr) (n c : Nat), v = .agg #[.slice A n c, .int .i64 f.2] ∧ RdI w 3 .i64 A n f.1 ∧ Wi w b A n
theorem FmB.toR {b : Nat} {v : Value} {w : World} {f : Fm} (h : FmB b v w f) : FmR v w f := by
  obtain ⟨A, n, c, rfl, h1, _⟩ := h
  exact ⟨A, n, c, rfl, h1⟩
theorem FmB.mono {b b' : Nat} {v : Value} {w : World} {f : Fm} (h : FmB b v w f) (hb : b' ≤ b) : FmB b' v w f := by
  obtain ⟨A, n, c, rfl, h1, h2⟩ := h
  exact ⟨A, n, c, rfl, h1, h2.mono hb⟩
theorem FmB.below {b : Nat} {v : Value} {w w' : World} {f : Fm} (h : FmB b v w f) (hb : Below w.heap.size w w') : FmB b v w' f := by
  obtain ⟨A, n, c, rfl, h1, h2⟩ := h
  exact ⟨A, n, c, rfl, h1.below hb, h2.below hb⟩
theorem FmB.nil (b : Nat) (w : World) : FmB b (.agg #[.slice none 0 0, .int .i64 0]) w ([], 0) := ⟨none, 0, 0, rfl, RdI.nil _ _ _ _, Wi.nil _ _ _⟩
def midz (x : Int) : Int := if mid x then x else 0
theorem int_mid (v : Int) (A : Option Addr) (n c : Nat) (x : Int) (w : World) (h : IntV w v A n c x) :
    Calls Try.prog 38 #[.agg #[.int .i64 v, .slice A n c], .int .i64 1152921504606846976] w fun e w' => e = .returned (.tuple #[.int .i64 (midz x), .bool (decide (mid x))]) ∧ Below w.heap.size w w' := by
  by_cases hm : mid x
  · rw [decide_eq_true hm, show midz x = x from if_pos hm]
    exact int_yes v A n c x 1152921504606846976 w h hm.1 hm.2 (by omega)
  · rw [decide_eq_false hm, show midz x = 0 from if_neg hm]
    exact int_no v A n c x 1152921504606846976 w h (by unfold mid at hm; omega) (by omega) (by omega)
theorem qj2 {A B C D E F : Prop} (h : A ∧ B) (h2 : C ∧ D ∧ E ∧ F) : A ∧ B ∧ C ∧ D ∧ E ∧ F := ⟨h.1, h.2, h2⟩
set_option maxHeartbeats 40000000
set_option maxRecDepth 100000
theorem lout_calls (A : Option Addr) (n c : Nat) (x : RC) (b : Bool) (r : Rw) (w : World) (h : RwV w A n x r) :
    Calls Try.prog 22 #[.agg #[.slice A n c, .int .i64 x.v, .slice x.A x.n x.c, .int .i64 x.v', .slice x.A' x.n' x.c', .bool b]] w fun e w' => (∃ v, e = .returned (.tuple #[v, .bool (decide (outOk r))]) ∧ FmB w.heap.size v w' (outF r)) ∧ Below w.heap.size w w' := by
  have hq := h.1
  have hx := h.2
  have LN := Lib.hid hq.1
  have hn := hq.2.1
  clear h
  obtain ⟨cs, om, qm⟩ := made_i n hn
  have NO : ¬ outOk r → decide (outOk r) = false ∧ outF r = ([], 0) := fun h => ⟨decide_eq_false h, if_neg h⟩
  have YES : outOk r → decide (outOk r) = true ∧ outF r = outW r := fun h => ⟨decide_eq_true h, if_pos h⟩
  generalize hD : decide (outOk r) = D at *
  generalize hF : outF r = F at *
  clear hD hF
  have OM := Lib.hid om
  clear om
  go_enter Try.func22, Try.ntmps22
  go_upto_region 3 with (fail)
  have B0 := bl_alloc (bl_alloc (bl_alloc (bl_alloc (Below.refl w.heap.size w) (.cells #[.slice A n c, .int .i64 x.v, .slice x.A x.n x.c, .int .i64 x.v', .slice x.A' x.n' x.c', .bool b] 65)) (.cells #[.slice none 0 0, .int .i64 0] 30)) (.cells cs 3)) (.cells #[.slice (some ⟨w.heap.size + 1 + 1, 0, none⟩) n n, .int .i64 0] 30)
  have a1 : ((((w.alloc (.cells #[.slice A n c, .int .i64 x.v, .slice x.A x.n x.c, .int .i64 x.v', .slice x.A' x.n' x.c', .bool b] 65)).alloc (.cells #[.slice none 0 0, .int .i64 0] 30)).alloc (.cells cs 3)).alloc (.cells #[.slice (some ⟨w.heap.size + 1 + 1, 0, none⟩) n n, .int .i64 0] 30)).heap[w.heap.size]? = some (.cells #[.slice A n c, .int .i64 x.v, .slice x.A x.n x.c, .int .i64 x.v', .slice x.A' x.n' x.c', .bool b] 65 (0, 0)) := blk_alloc (blk_alloc (blk_alloc (blk_at _ rfl) _) _) _
  have a2 : ((((w.alloc (.cells #[.slice A n c, .int .i64 x.v, .slice x.A x.n x.c, .int .i64 x.v', .slice x.A' x.n' x.c', .bool b] 65)).alloc (.cells #[.slice none 0 0, .int .i64 0] 30)).alloc (.cells cs 3)).alloc (.cells #[.slice (some ⟨w.heap.size + 1 + 1, 0, none⟩) n n, .int .i64 0] 30)).heap[w.heap.size + 1]? = some (.cells #[.slice none 0 0, .int .i64 0] 30 (0, 0)) := blk_alloc (blk_alloc (blk_at _ (by simp)) _) _
  have OQ : OwnI ((((w.alloc (.cells #[.slice A n c, .int .i64 x.v, .slice x.A x.n x.c, .int .i64 x.v', .slice x.A' x.n' x.c', .bool b] 65)).alloc (.cells #[.slice none 0 0, .int .i64 0] 30)).alloc (.cells cs 3)).alloc (.cells #[.slice (some ⟨w.heap.size + 1 + 1, 0, none⟩) n n, .int .i64 0] 30)) w.heap.size (w.heap.size + 1 + 1) n n (List.replicate n 0) := (OM.out _ _ _ (by simp) (by simp; omega)).al _
  have a4 : ((((w.alloc (.cells #[.slice A n c, .int .i64 x.v, .slice x.A x.n x.c, .int .i64 x.v', .slice x.A' x.n' x.c', .bool b] 65)).alloc (.cells #[.slice none 0 0, .int .i64 0] 30)).alloc (.cells cs 3)).alloc (.cells #[.slice (some ⟨w.heap.size + 1 + 1, 0, none⟩) n n, .int .i64 0] 30)).heap[w.heap.size + 1 + 1 + 1]? = some (.cells #[.slice (some ⟨w.heap.size + 1 + 1, 0, none⟩) n n, .int .i64 0] 30 (0, 0)) := blk_at _ (by simp)
  replace hx := hx.below B0
  generalize (((w.alloc (.cells #[.slice A n c, .int .i64 x.v, .slice x.A x.n x.c, .int .i64 x.v', .slice x.A' x.n' x.c', .bool b] 65)).alloc (.cells #[.slice none 0 0, .int .i64 0] 30)).alloc (.cells cs 3)).alloc (.cells #[.slice (some ⟨w.heap.size + 1 + 1, 0, none⟩) n n, .int .i64 0] 30) = W0 at *
  obtain ⟨⟨f1, f2, f3, f4, f5, f6⟩, f7⟩ := q6 a1
  have hx0 : RatV W0 x.v x.A x.n x.c x.v' x.A' x.n' x.c' r.2 := hx
  clear hx
  go_wp2_with fail
  refine (top_calls x.v x.A x.n x.c x.v' x.A' x.n' x.c' r.2 _ hx0).mono ?_
  rintro e w1 ⟨⟨v5, A5, n5, c5, rfl, t5⟩, hB1⟩
  replace a1 := blk_below a1 hB1
  replace a2 := blk_below a2 hB1
  replace a4 := blk_below a4 hB1
  replace OQ := OQ.below hB1
  replace B0 := bl_then B0 hB1
  clear hB1 f1 f2 f3 f4 f5 f6 f7 hx0
  go_wp2_with fail
  refine (int_mid v5 A5 n5 c5 _ _ t5).mono ?_
  rintro e w2 ⟨he, hB1⟩
  replace a1 := blk_below a1 hB1
  replace a2 := blk_below a2 hB1
  replace a4 := blk_below a4 hB1
  replace OQ := OQ.below hB1
  replace B0 := bl_then B0 hB1
  clear hB1 t5
  obtain ⟨f1, f2, f3, f4⟩ := bx2 a4
  have ls := OQ.ge
  have U1 : (w2.setCell ⟨w.heap.size + 1 + 1 + 1, 1, none⟩ (.int .i64 (midz r.2.num))).heap[w.heap.size + 1 + 1 + 1]? = some (.cells #[.slice (some ⟨w.heap.size + 1 + 1, 0, none⟩) n n, .int .i64 (midz r.2.num)] 30 (0, 0)) := blk_set a4 1 _
  have U2 := blk_far (i := 1) (v := .int .i64 (midz r.2.num)) a1 (show w.heap.size ≠ w.heap.size + 1 + 1 + 1 by omega)
  have U3 := blk_far (i := 1) (v := .int .i64 (midz r.2.num)) a2 (show w.heap.size + 1 ≠ w.heap.size + 1 + 1 + 1 by omega)
  have U4 := OQ.far (w' := w2.setCell ⟨w.heap.size + 1 + 1 + 1, 1, none⟩ (.int .i64 (midz r.2.num))) (heap_setCell_other _ _ _ _ (show w.heap.size + 1 + 1 ≠ w.heap.size + 1 + 1 + 1 by omega))
  have U5 := bl_set B0 (p := ⟨w.heap.size + 1 + 1 + 1, 1, none⟩) (show w.heap.size ≤ w.heap.size + 1 + 1 + 1 by omega) (.int .i64 (midz r.2.num))
  by_cases hm : mid r.2.num
  · rw [decide_eq_true hm] at he
    subst he
    rw [show midz r.2.num = r.2.num from if_pos hm] at *
    have HM := Lib.hid hm
    clear hm a1 a2 a4 OQ B0 ls
    have c1 := (blk_cell U2 0).1
    rw [uptoi_zero (fun j => (r.1.getD j 0).num) n] at U4
    go_wp2_with fail
    clear c1 f1 f2 f3 f4
    go_loopw [27] (fun i wr => ∃ kk : Nat, kk ≤ n ∧ i = .int .i64 kk ∧ (∀ j, j < kk → mid (r.1.getD j 0).num) ∧ OwnI wr w.heap.size (w.heap.size + 1 + 1) n n (uptoi (fun j => (r.1.getD j 0).num) n kk) ∧ wr.heap[w.heap.size + 1 + 1 + 1]? = some (.cells #[.slice (some ⟨w.heap.size + 1 + 1, 0, none⟩) n n, .int .i64 r.2.num] 30 (0, 0)) ∧ wr.heap[w.heap.size + 1]? = some (.cells #[.slice none 0 0, .int .i64 0] 30 (0, 0)) ∧ Below w.heap.size w wr) (fun i _ => n - (intOf i).toNat)
    case atStart => exact ⟨0, Nat.zero_le _, rfl, fun j hj => absurd hj (by omega), U4, U1, U3, U5⟩
    case round =>
      clear U1 U2 U3 U4 U5
      obtain ⟨kk, hkk, rfl, hall, OQ, a4, a2, B0⟩ := hrel
      have HALL := Lib.hid hall
      clear hall
      by_cases hlt : kk < n
      · obtain ⟨g, off, rfl, hg, hc⟩ := (hq.below B0).2.2.1 (by omega)
        obtain ⟨z, ⟨p1, p2, p3, p4⟩, hz⟩ := hc kk hlt
        clear hc hq
        have hk0 : (0 : Int) ≤ (kk : Int) := by omega
        have hkn : (kk : Int) < (n : Int) := by omega
        have lw4 := blk_lt a4
        have lws := OQ.ge
        go_upto_region 9 with (fail)
        have a5 : (wr.alloc (.cells #[.int .i64 z.v, .slice z.A z.n z.c, .int .i64 z.v', .slice z.A' z.n' z.c'] 63)).heap[wr.heap.size]? = some (.cells #[.int .i64 z.v, .slice z.A z.n z.c, .int .i64 z.v', .slice z.A' z.n' z.c'] 63 (0, 0)) := blk_at _ rfl
        replace a4 := blk_alloc a4 (.cells #[.int .i64 z.v, .slice z.A z.n z.c, .int .i64 z.v', .slice z.A' z.n' z.c'] 63)
        replace a2 := blk_alloc a2 (.cells #[.int .i64 z.v, .slice z.A z.n z.c, .int .i64 z.v', .slice z.A' z.n' z.c'] 63)
        replace B0 := bl_alloc B0 (.cells #[.int .i64 z.v, .slice z.A z.n z.c, .int .i64 z.v', .slice z.A' z.n' z.c'] 63)
        replace OQ := OQ.al (.cells #[.int .i64 z.v, .slice z.A z.n z.c, .int .i64 z.v', .slice z.A' z.n' z.c'] 63)
        replace hz : RatV (wr.alloc (.cells #[.int .i64 z.v, .slice z.A z.n z.c, .int .i64 z.v', .slice z.A' z.n' z.c'] 63)) z.v z.A z.n z.c z.v' z.A' z.n' z.c' (r.1.getD kk 0) := RatV.al hz (.cells #[.int .i64 z.v, .slice z.A z.n z.c, .int .i64 z.v', .slice z.A' z.n' z.c'] 63)
        clear p1 p2 p3 p4 hg
        generalize hg9 : wr.heap.size = g9 at *
        generalize wr.alloc (.cells #[.int .i64 z.v, .slice z.A z.n z.c, .int .i64 z.v', .slice z.A' z.n' z.c'] 63) = W9 at *
        clear hg9
        have hmem : r.1.getD kk 0 ∈ r.1 := mem_getD (by rw [LN.out]; exact hlt)
        generalize hq1 : r.1.getD kk 0 = q1 at *
        have HQ1 := Lib.hid hq1
        clear hq1
        have HMEM := Lib.hid hmem
        clear hmem
        generalize hmz : decide (mid q1.num) = mz
        generalize hmv : midz q1.num = mv
        have HMV := Lib.hid hmv
        clear hmv
        have HMZ := Lib.hid hmz
        clear hmz
        have a2_0 := a2
        have a4_0 := a4
        have a5_0 := a5
        have HB_0 := B0
        have hz_0 := hz
        go_region_held3 (fun W => W.cell? ⟨w.heap.size + 1 + 1 + 1, 0, none⟩ = some (Value.slice (some ⟨w.heap.size + 1 + 1, 0, none⟩) n n) ∧ W.cell? ⟨w.heap.size + 1 + 1 + 1, 1, none⟩ = some (Value.int .i64 r.2.num) ∧ W.cell? ⟨g9, 0, none⟩ = some (Value.int .i64 z.v) ∧ W.cell? ⟨g9, 1, none⟩ = some (Value.slice z.A z.n z.c) ∧ W.cell? ⟨g9, 2, none⟩ = some (Value.int .i64 z.v') ∧ W.cell? ⟨g9, 3, none⟩ = some (Value.slice z.A' z.n' z.c')) (first | (refine qj2 (qx2 (t := 30) ?_) (qx4 (t := 63) ?_) <;> (repeat (first | with_reducible exact a4_2 | with_reducible exact a4_1 | with_reducible exact a4_0 | with_reducible exact a5_2 | with_reducible exact a5_1 | with_reducible exact a5_0 | with_reducible refine blk_alloc ?_ _ | with_reducible refine blk_drew ?_ | with_reducible refine blk_far ?_ ?_ | omega)); done) | go_keep) (first | (have _hh := t5_1; go_at_call 38; refine (int_mid v5 A5 n5 c5 _ _ (by repeat (first | with_reducible exact t5_1 | with_reducible refine IntV.below ?_ (bl_drew (Below.refl _ _))))).mono ?_; rintro e ww2 ⟨he, hB6⟩; rw [HMZ.out, HMV.out] at he; subst he; have a4_2 : ww2.heap[w.heap.size + 1 + 1 + 1]? = some (.cells #[.slice (some ⟨w.heap.size + 1 + 1, 0, none⟩) n n, .int .i64 r.2.num] 30 (0, 0)) := (by repeat (first | with_reducible exact a4_1 | with_reducible refine blk_below ?_ hB6 | with_reducible refine blk_alloc ?_ _ | with_reducible refine blk_drew ?_)); have a5_2 : ww2.heap[g9]? = some (.cells #[.int .i64 z.v, .slice z.A z.n z.c, .int .i64 z.v', .slice z.A' z.n' z.c'] 63 (0, 0)) := (by repeat (first | with_reducible exact a5_1 | with_reducible refine blk_below ?_ hB6 | with_reducible refine blk_alloc ?_ _ | with_reducible refine blk_drew ?_)); have a2_2 : ww2.heap[w.heap.size + 1]? = some (.cells #[.slice none 0 0, .int .i64 0] 30 (0, 0)) := (by repeat (first | with_reducible exact a2_1 | with_reducible refine blk_below ?_ hB6 | with_reducible refine blk_alloc ?_ _ | with_reducible refine blk_drew ?_)); have HB_2 : Below w.heap.size w ww2 := (by repeat (first | with_reducible exact HB_1 | with_reducible refine bl_then ?_ hB6 | with_reducible refine bl_alloc ?_ _ | with_reducible refine bl_drew ?_)); have OQ_2 := (by first | exact OwnI.below OQ_1 hB6 | exact OwnI.below (OwnI.dr OQ_1) hB6); have o1 := OQ_2.at kk hlt; have o2 := OQ_2.frozen kk; have lg := OQ_2.ge.2) | (have _hh := hz_0; go_at_call 52; refine (top_calls z.v z.A z.n z.c z.v' z.A' z.n' z.c' q1 _ (by repeat (first | with_reducible exact hz_0 | with_reducible refine RatV.al ?_ _ | with_reducible refine RatV.dr ?_))).mono ?_; rintro e ww ⟨⟨v5, A5, n5, c5, rfl, t5_1⟩, hB5⟩; have a4_1 : ww.heap[w.heap.size + 1 + 1 + 1]? = some (.cells #[.slice (some ⟨w.heap.size + 1 + 1, 0, none⟩) n n, .int .i64 r.2.num] 30 (0, 0)) := (by repeat (first | with_reducible exact a4_0 | with_reducible refine blk_below ?_ hB5 | with_reducible refine blk_alloc ?_ _ | with_reducible refine blk_drew ?_)); have a5_1 : ww.heap[g9]? = some (.cells #[.int .i64 z.v, .slice z.A z.n z.c, .int .i64 z.v', .slice z.A' z.n' z.c'] 63 (0, 0)) := (by repeat (first | with_reducible exact a5_0 | with_reducible refine blk_below ?_ hB5 | with_reducible refine blk_alloc ?_ _ | with_reducible refine blk_drew ?_)); have a2_1 : ww.heap[w.heap.size + 1]? = some (.cells #[.slice none 0 0, .int .i64 0] 30 (0, 0)) := (by repeat (first | with_reducible exact a2_0 | with_reducible refine blk_below ?_ hB5 | with_reducible refine blk_alloc ?_ _ | with_reducible refine blk_drew ?_)); have HB_1 : Below w.heap.size w ww := (by repeat (first | with_reducible exact HB_0 | with_reducible refine bl_then ?_ hB5 | with_reducible refine bl_alloc ?_ _ | with_reducible refine bl_drew ?_)); have OQ_1 := (by first | exact OwnI.below OQ hB5 | exact OwnI.below (OwnI.dr OQ) hB5)) | fail)
        all_goals
          have U1 := Lib.hid (OwnI.set OQ_2 HB_2 (Nat.le_refl _) kk (mv))
          have U4 := blk_far (i := kk) (v := .int .i64 (mv)) a4_2 (show w.heap.size + 1 + 1 + 1 ≠ w.heap.size + 1 + 1 by omega)
          have U3 := blk_far (i := kk) (v := .int .i64 (mv)) a2_2 (show w.heap.size + 1 ≠ w.heap.size + 1 + 1 by omega)
          clear t5_1
          cases mz
          · have hm := of_decide_eq_false HMZ.out
            obtain ⟨rfl, rfl⟩ := NO (fun hh => hm (hh.2 _ HMEM.out))
            obtain ⟨g1, g2, g3, g4⟩ := bx2 U3
            go_wp2
            refine bodyPost_ret (results_cell_tmp_row rfl _ _ (w.heap.size + 1) 30 #[.slice none 0 0, .int .i64 0] (0, 0) _ _ rfl (blk_set2 U3 _ _) Try.underlying30 rfl (by kernel_rfl) rfl) rfl ?_
            exact ⟨⟨_, rfl, FmB.nil _ _⟩, bl_set (bl_set U1.out.2 (by simp) _) (by simp) _⟩
          · have hm := of_decide_eq_true HMZ.out
            have HM2 := Lib.hid hm
            have e1 : mv = q1.num := by rw [← HMV.out]; exact if_pos hm
            have E1 := Lib.hid e1
            clear hm e1
            go_wp2
            go_roundw
            case rel =>
              refine ⟨kk + 1, hlt, by go_num, ?_, ?_, U4, U3, U1.out.2⟩
              · intro j hj
                rcases Nat.lt_or_ge j kk with h1 | h1
                · exact HALL.out j h1
                · have : j = kk := by omega
                  subst this
                  rw [HQ1.out]; exact HM2.out
              · have h9 := U1.out.1
                have h10 : (uptoi (fun j => (r.1.getD j 0).num) n kk).set kk mv = uptoi (fun j => (r.1.getD j 0).num) n (kk + 1) := by
                  rw [E1.out, ← HQ1.out, uptoi_set (fun j => (r.1.getD j 0).num) n kk hlt]
                rw [h10] at h9
                exact h9
            case measure => simp [intOf]; omega
      · have hkn : kk = n := by omega
        subst hkn
        have hok : outOk r := ⟨HM.out, all_of_getD (d := (0 : Rat)) (p := fun q : Rat => mid q.num) fun j hj => HALL.out j (by rw [LN.out] at hj; omega)⟩
        obtain ⟨rfl, rfl⟩ := YES hok
        rw [uptoi_full (fun j => (r.1.getD j 0).num) kk (outW r).1 (by show (r.1.map _).length = _; rw [List.length_map]; exact LN.out) (fun j hj => by show _ = (r.1.map Rat.num).getD j 0; rw [getD_map Rat.num r.1 j 0 0 (by rw [LN.out]; exact hj)])] at OQ
        clear YES NO
        obtain ⟨f1, f2, f3, f4⟩ := bx2 a4
        obtain ⟨g1, g2, g3, g4⟩ := bx2 a2
        have lw4 := blk_lt a4
        have U1 := OQ.far (w' := wr.setCell ⟨w.heap.size + 1, 0, none⟩ (.slice (some ⟨w.heap.size + 1 + 1, 0, none⟩) kk kk)) (heap_setCell_other _ _ _ _ (show w.heap.size + 1 + 1 ≠ w.heap.size + 1 by omega))
        have U2 := U1.far (w' := (wr.setCell ⟨w.heap.size + 1, 0, none⟩ (.slice (some ⟨w.heap.size + 1 + 1, 0, none⟩) kk kk)).setCell ⟨w.heap.size + 1, 1, none⟩ (.int .i64 r.2.num)) (heap_setCell_other _ _ _ _ (show w.heap.size + 1 + 1 ≠ w.heap.size + 1 by omega))
        go_wp2
        refine bodyPost_ret (results_cell_tmp_row rfl _ _ (w.heap.size + 1) 30 #[.slice (some ⟨w.heap.size + 1 + 1, 0, none⟩) kk kk, .int .i64 r.2.num] (0, 0) _ _ rfl (blk_set2 a2 _ _) Try.underlying30 rfl (by kernel_rfl) rfl) rfl ?_
        exact ⟨⟨_, rfl, _, _, _, rfl, U2.rd, U2.wi⟩, bl_set (bl_set B0 (by simp) _) (by simp) _⟩
  · rw [decide_eq_false hm] at he
    subst he
    obtain ⟨rfl, rfl⟩ := NO (fun hh => hm hh.1)
    rw [show midz r.2.num = 0 from if_neg hm] at *
    clear YES NO hm
    obtain ⟨g1, g2, g3, g4⟩ := bx2 U3
    go_wp2
    refine bodyPost_ret (results_cell_tmp_row rfl _ _ (w.heap.size + 1) 30 #[.slice none 0 0, .int .i64 0] (0, 0) _ _ rfl (blk_set2 U3 _ _) Try.underlying30 rfl (by kernel_rfl) rfl) rfl ?_
    exact ⟨⟨_, rfl, FmB.nil _ _⟩, bl_set (bl_set U5 (by simp) _) (by simp) _⟩
end Go.Proofs.Ytjmbpeniibdnoaa

namespace Go.Proofs.Ytjmbpeniibdnoaa
open Go.RowKit

def gcl {α : Type} (cl : α → List Value) : List α → List Value
  | [] => []
  | y :: l => cl y ++ gcl cl l
/-- What is told of a kind of elements. -/
structure Kind (α β : Type) where
  cl : α → List Value
  sz : Nat
  E : TypeId
  Is : World → α → β → Prop
  d : α
  e : β
structure Kind.Ok {α β : Type} (K : Kind α β) : Prop where
  len : ∀ y, (K.cl y).length = K.sz
  pos : 0 < K.sz
  one : ∀ y, ∀ u ∈ K.cl y, u.oneCell' = true
  kp : ∀ W W' y r, K.Is W y r → (∀ t, K.E ≠ t → Kp t W W') → K.Is W' y r
  bl : ∀ W W' y r, K.Is W y r → Below W.heap.size W W' → K.Is W' y r
def Kind.Own {α β : Type} (K : Kind α β) (w : World) (base : Nat) (v : Value) (n : Nat) (R : List β) : Prop :=
  ∃ l : List α, w.ownsRow base K.E K.sz v n (gcl K.cl l) ∧ l.length = n ∧ R.length = n ∧ ∀ j, j < n → K.Is w (l.getD j K.d) (R.getD j K.e)
section
variable {α β : Type} {K : Kind α β}
theorem gcl_len (h : K.Ok) (l : List α) : (gcl K.cl l).length = l.length * K.sz := by
  induction l with
  | nil => show 0 = 0 * K.sz; omega
  | cons y l ih =>
    show (K.cl y ++ gcl K.cl l).length = _
    rw [List.length_append, ih, List.length_cons, h.len y, Nat.succ_mul]; omega
theorem gcl_app (l m : List α) : gcl K.cl (l ++ m) = gcl K.cl l ++ gcl K.cl m := by
  induction l with
  | nil => rfl
  | cons y l ih => show K.cl y ++ gcl K.cl (l ++ m) = (K.cl y ++ gcl K.cl l) ++ gcl K.cl m; rw [ih, List.append_assoc]
theorem gcl_one (h : K.Ok) (l : List α) : ∀ u ∈ gcl K.cl l, u.oneCell' = true := by
  induction l with
  | nil => intro u hu; cases hu
  | cons y l ih =>
    intro u hu
    rcases List.mem_append.1 (show u ∈ K.cl y ++ gcl K.cl l from hu) with h1 | h1
    · exact h.one y u h1
    · exact ih u h1
theorem gcl_at (h : K.Ok) (l : List α) (j i : Nat) (hj : j < l.length) (hi : i < K.sz) : (gcl K.cl l)[j * K.sz + i]? = (K.cl (l.getD j K.d))[i]? := by
  induction l generalizing j with
  | nil => simp at hj
  | cons y l ih =>
    show (K.cl y ++ gcl K.cl l)[j * K.sz + i]? = _
    have hl := h.len y
    cases j with
    | zero => rw [Nat.zero_mul, Nat.zero_add, List.getElem?_append_left (by omega)]; rfl
    | succ j =>
      rw [Nat.succ_mul, List.getElem?_append_right (by omega), show j * K.sz + K.sz + i - (K.cl y).length = j * K.sz + i by omega, ih j (by simpa using hj)]
      simp
theorem Kind.Own.nil (w : World) (base : Nat) : K.Own w base (.slice none 0 0) 0 [] := ⟨[], World.ownsRow_nil w base _ _, rfl, rfl, fun j hj => absurd hj (by omega)⟩
theorem Kind.Own.below (h : K.Ok) {w w' : World} {base n : Nat} {v : Value} {R : List β} (ho : K.Own w base v n R) (hb : Below w.heap.size w w') : K.Own w' base v n R := by
  obtain ⟨l, h1, h2, h3, h4⟩ := ho
  exact ⟨l, own_alloc_below h1 hb, h2, h3, fun j hj => h.bl _ _ _ _ (h4 j hj) hb⟩
theorem Kind.Own.rd (h : K.Ok) {w : World} {base n : Nat} {v : Value} {R : List β} (ho : K.Own w base v n R) : ∃ A c, v = .slice A n c ∧ R.length = n ∧ (A = none → n = 0 ∧ c = 0) ∧ (∀ g o p, A = some ⟨g, o, p⟩ → base ≤ g ∧ o = 0 ∧ p = none ∧ ∃ cs, w.heap[g]? = some (.cells cs K.E (0, 0))) ∧ (0 < n → ∃ g cs, A = some ⟨g, 0, none⟩ ∧ w.heap[g]? = some (.cells cs K.E (0, 0)) ∧ ∀ j, j < n → ∃ y, (∀ i, i < K.sz → w.cell? ⟨g, j * K.sz + i, none⟩ = (K.cl y)[i]?) ∧ K.Is w y (R.getD j K.e)) := by
  obtain ⟨l, h1, h2, h3, h4⟩ := ho
  have h1' := h1
  rcases h1.2 with ⟨rfl, rfl⟩ | ⟨g, cap, cur, rfl, hb, hg, hc, hm, hs, ht⟩
  · exact ⟨none, 0, rfl, h3, fun _ => ⟨rfl, rfl⟩, fun _ _ _ he => (by cases he), fun hp => absurd hp (by omega)⟩
  · refine ⟨_, cap, rfl, h3, fun he => (by cases he), fun _ _ _ he => (by cases he; exact ⟨hb, rfl, rfl, cur, hg⟩), fun _ => ⟨g, cur, rfl, hg, fun j hj => ⟨l.getD j K.d, fun i hi => ?_, h4 j hj⟩⟩⟩
    have hlt : j * K.sz + i < n * K.sz := by
      have : (j + 1) * K.sz ≤ n * K.sz := Nat.mul_le_mul_right _ hj
      rw [Nat.succ_mul] at this
      omega
    rw [h1'.cellAt _ hlt, gcl_at h l j i (by omega) hi]
/-- append(out, l...). -/
theorem appg (h : K.Ok) (ST : TypeId) (z : Value) (bytes : Nat) (hinfo : (Try.prog.info? K.E).map (fun i => (i.zero, i.size, i.bytes)) = some (some z, K.sz, bytes)) (hund : Try.prog.underlying ST = some (.slice K.E)) (hz : z.cells.size = K.sz) (hby : bytes ≤ 1000)
    {W : World} {base n m c : Nat} {v : Value} {R R2 : List β} {a : Addr} (ho : K.Own W base v n R) (l2 : List α) (hl2 : l2.length = m) (hR2 : R2.length = m)
    (hnews : ∀ j u, (gcl K.cl l2)[j]? = some u → W.cell? (a.add j) = some u) (his : ∀ j, j < m → K.Is W (l2.getD j K.d) (R2.getD j K.e)) (hn : n + m ≤ 1000000) (hb : base ≤ W.heap.size) :
    ∃ v' W', (Builtin.append_ #[ST, ST] ST #[v, .slice (some a) m c]).run Try.prog W = .ok v' W' ∧ K.Own W' base v' (n + m) (R ++ R2) ∧ W.grownBy W' v.ownBlock := by
  obtain ⟨i0, hi, hz0, hz1, hz2⟩ := info_parts hinfo
  obtain ⟨l, h1, h2, h3, h4⟩ := ho
  have hbb : (n + m) * bytes ≤ 140737488355328 := by
    have := Nat.mul_le_mul hn hby
    omega
  obtain ⟨v', W', hrun, r1, r2, _⟩ := run_append_own (P := Try.prog) W base ST ST K.E i0 _ K.sz bytes hund hi hz0 hz1 hz2 hz h.pos v n (gcl K.cl l) h1 a m c (gcl K.cl l2) (by rw [gcl_len h, hl2]) hnews (gcl_one h l2) (by simp only [maxLen]; omega) hbb hb
  have k1 : ∀ t, K.E ≠ t → Kp t W W' := fun t ht => kp_grown h1 r2 ht
  refine ⟨v', W', hrun, ⟨l ++ l2, by rw [gcl_app]; exact r1, by rw [List.length_append, h2, hl2], by rw [List.length_append, h3, hR2], fun j hj => ?_⟩, r2⟩
  rcases Nat.lt_or_ge j n with h5 | h5
  · rw [show (l ++ l2).getD j K.d = l.getD j K.d by rw [List.getD_eq_getElem?_getD, List.getElem?_append_left (by omega), ← List.getD_eq_getElem?_getD], show (R ++ R2).getD j K.e = R.getD j K.e by rw [List.getD_eq_getElem?_getD, List.getElem?_append_left (by omega), ← List.getD_eq_getElem?_getD]]
    exact h.kp _ _ _ _ (h4 j h5) k1
  · rw [show (l ++ l2).getD j K.d = l2.getD (j - n) K.d by rw [List.getD_eq_getElem?_getD, List.getElem?_append_right (by omega), h2, ← List.getD_eq_getElem?_getD], show (R ++ R2).getD j K.e = R2.getD (j - n) K.e by rw [List.getD_eq_getElem?_getD, List.getElem?_append_right (by omega), h3, ← List.getD_eq_getElem?_getD]]
    exact h.kp _ _ _ _ (his (j - n) (by omega)) k1
/-- append(out, x), x laid in a block of one element. -/
theorem appg1 (h : K.Ok) (ST : TypeId) (z : Value) (bytes : Nat) (hinfo : (Try.prog.info? K.E).map (fun i => (i.zero, i.size, i.bytes)) = some (some z, K.sz, bytes)) (hund : Try.prog.underlying ST = some (.slice K.E)) (hz : z.cells.size = K.sz) (hby : bytes ≤ 1000)
    {W : World} {base n c g : Nat} {v : Value} {R : List β} (ho : K.Own W base v n R) (y : α) (r : β) (cs : Array Value) (hg : W.heap[g]? = some (.cells cs K.E (0, 0))) (hcs : cs.toList = K.cl y) (his : K.Is W y r) (hn : n + 1 ≤ 1000000) (hb : base ≤ W.heap.size) :
    ∃ v' W', (Builtin.append_ #[ST, ST] ST #[v, .slice (some ⟨g, 0, none⟩) 1 c]).run Try.prog W = .ok v' W' ∧ K.Own W' base v' (n + 1) (R ++ [r]) ∧ W.grownBy W' v.ownBlock := by
  refine appg h ST z bytes hinfo hund hz hby ho [y] rfl rfl (fun j u hu => ?_) (fun j hj => ?_) hn hb
  · have e1 : gcl K.cl [y] = cs.toList := by show K.cl y ++ [] = _; rw [List.append_nil, hcs]
    rw [e1, Array.getElem?_toList] at hu
    have := (blk_cell hg j).1
    rw [hu] at this
    rw [show (⟨g, 0, none⟩ : Addr).add j = ⟨g, j, none⟩ by simp [Addr.add]; intro e; exact e.symm]
    exact this
  · have : j = 0 := by omega
    subst this
    exact his
end
theorem Kind.Own.ge {α β : Type} {K : Kind α β} {w : World} {base n : Nat} {v : Value} {R : List β} (ho : K.Own w base v n R) : ∀ b, v.ownBlock = some b → base ≤ b := by
  obtain ⟨l, h1, _⟩ := ho
  exact fun b hb => (h1.lt b hb).1

/-- Forms. -/
structure FC where
  A : Option Addr
  n : Nat
  c : Nat
  a : Int
def KF : Kind FC Fm := ⟨fun y => [.slice y.A y.n y.c, .int .i64 y.a], 2, 30, fun w y f => RdI w 3 .i64 y.A y.n f.1 ∧ y.a = f.2, ⟨none, 0, 0, 0⟩, ([], 0)⟩
theorem KF.ok : KF.Ok := ⟨fun _ => rfl, by decide, fun y u hu => by simp [KF] at hu; rcases hu with rfl | rfl <;> rfl, fun W W' y r h k => ⟨h.1.kp (k _ (by decide)), h.2⟩, fun W W' y r h k => ⟨h.1.below k, h.2⟩⟩
theorem info_form : (Try.prog.info? KF.E).map (fun i => (i.zero, i.size, i.bytes)) = some (some (.agg #[.slice none 0 0, .int .i64 0]), KF.sz, 32) := by kernel_rfl
theorem KF.rdF {w : World} {base n : Nat} {v : Value} {F : List Fm} (h : KF.Own w base v n F) (hn : n ≤ 1000000) : ∃ A c, v = .slice A n c ∧ RdF w A n F := by
  obtain ⟨A, c, rfl, h1, h2, _, h3⟩ := h.rd KF.ok
  refine ⟨A, c, rfl, h1, by omega, fun hp => ?_⟩
  obtain ⟨g, cs, rfl, hg, hc⟩ := h3 hp
  refine ⟨g, 0, rfl, blk_lt hg, fun j hj => ?_⟩
  obtain ⟨y, hy, hi⟩ := hc j hj
  have k0 := hy 0 (by decide)
  have k1 := hy 1 (by decide)
  rw [Nat.zero_add]
  refine ⟨y.A, y.n, y.c, k0, ?_, RdI.toC hi.1⟩
  have := hi.2
  rw [show (F.getD j ([], 0)).2 = y.a from this.symm]
  exact k1
/-- Forms whose coefficients lie in blocks from b on. -/
def KFb (b : Nat) : Kind FC Fm := ⟨fun y => [.slice y.A y.n y.c, .int .i64 y.a], 2, 30, fun w y f => RdI w 3 .i64 y.A y.n f.1 ∧ Wi w b y.A y.n ∧ y.a = f.2, ⟨none, 0, 0, 0⟩, ([], 0)⟩
theorem KFb.ok (b : Nat) : (KFb b).Ok := ⟨fun _ => rfl, by show 0 < 2; decide, fun y u hu => by simp [KFb] at hu; rcases hu with rfl | rfl <;> rfl, fun W W' y r h k => ⟨h.1.kp (k _ (by show 30 ≠ 3; decide)), h.2.1.kp (k _ (by show 30 ≠ 3; decide)), h.2.2⟩, fun W W' y r h k => ⟨h.1.below k, h.2.1.below k, h.2.2⟩⟩
theorem KFb.rdF {b : Nat} {w : World} {base n : Nat} {v : Value} {F : List Fm} (h : (KFb b).Own w base v n F) (hn : n ≤ 1000000) : ∃ A c, v = .slice A n c ∧ RdF w A n F := by
  obtain ⟨A, c, rfl, h1, h2, _, h3⟩ := h.rd (KFb.ok b)
  refine ⟨A, c, rfl, h1, by omega, fun hp => ?_⟩
  obtain ⟨g, cs, rfl, hg, hc⟩ := h3 hp
  refine ⟨g, 0, rfl, blk_lt hg, fun j hj => ?_⟩
  obtain ⟨y, hy, hi⟩ := hc j hj
  have k0 := hy 0 (show 0 < 2 by decide)
  have k1 := hy 1 (show 1 < 2 by decide)
  rw [Nat.zero_add]
  refine ⟨y.A, y.n, y.c, k0, ?_, RdI.toC hi.1⟩
  have := hi.2.2
  rw [show (F.getD j ([], 0)).2 = y.a from this.symm]
  exact k1
theorem Kind.Own.base3 {α β : Type} {K : Kind α β} {w : World} {b b' n : Nat} {v : Value} {R : List β} (h : K.Own w b v n R) (hb : b' ≤ b) : K.Own w b' v n R := by
  obtain ⟨l, h1, h2⟩ := h
  refine ⟨l, ⟨h1.1, ?_⟩, h2⟩
  rcases h1.2 with h0 | ⟨g, cap, cur, hv, hbg, r⟩
  · exact .inl h0
  · exact .inr ⟨g, cap, cur, hv, by omega, r⟩
/-- Forms as a result: read, and of the call's own. -/
def FoB (b : Nat) (w : World) (A : Option Addr) (n c : Nat) (F : List Fm) : Prop := RdF w A n F ∧ (KFb b).Own w b (.slice A n c) n F
theorem FoB.below {b : Nat} {w w' : World} {A : Option Addr} {n c : Nat} {F : List Fm} (h : FoB b w A n c F) (hb : Below w.heap.size w w') : FoB b w' A n c F := ⟨h.1.below hb, h.2.below (KFb.ok b) hb⟩
theorem FoB.mono {b b' : Nat} {w : World} {A : Option Addr} {n c : Nat} {F : List Fm} (h : FoB b w A n c F) (hb : b' ≤ b) : FoB b' w A n c F := by
  refine ⟨h.1, ?_⟩
  obtain ⟨l, h1, h2, h3, h4⟩ := h.2.base3 hb
  exact ⟨l, h1, h2, h3, fun j hj => ⟨(h4 j hj).1, (h4 j hj).2.1.mono hb, (h4 j hj).2.2⟩⟩
theorem FoB.nil (b : Nat) (w : World) : FoB b w none 0 0 [] := ⟨RdF.nil _ _, Kind.Own.nil w b⟩
/-- Rationals. -/
def KQ : Kind RC Rat := ⟨RC.cells, 4, 63, RC.Is, RC.zero, 0⟩
theorem KQ.ok : KQ.Ok := ⟨fun _ => rfl, by decide, fun y u hu => by simp [KQ, RC.cells] at hu; rcases hu with rfl | rfl | rfl | rfl <;> rfl, fun W W' y r h k => RC.Is.kp h (k _ (by decide)), fun W W' y r h k => RC.Is.below h k⟩
theorem info_rat : (Try.prog.info? KQ.E).map (fun i => (i.zero, i.size, i.bytes)) = some (some (.agg #[.int .i64 0, .slice none 0 0, .int .i64 0, .slice none 0 0]), KQ.sz, 64) := by kernel_rfl
theorem KQ.rdQ {w : World} {base n : Nat} {v : Value} {X : List Rat} (h : KQ.Own w base v n X) (hn : n ≤ 1000000) : ∃ A c, v = .slice A n c ∧ RdQ w A n X := by
  obtain ⟨A, c, rfl, h1, h2, _, h3⟩ := h.rd KQ.ok
  refine ⟨A, c, rfl, h1, by omega, fun hp => ?_, fun hp => ?_⟩
  · obtain ⟨g, cs, rfl, hg, hc⟩ := h3 hp
    refine ⟨g, 0, rfl, blk_lt hg, fun j hj => ?_⟩
    obtain ⟨y, hy, hi⟩ := hc j hj
    have k0 := hy 0 (by decide)
    have k1 := hy 1 (by decide)
    have k2 := hy 2 (by decide)
    have k3 := hy 3 (by decide)
    rw [Nat.zero_add]
    exact ⟨y, ⟨k0, k1, k2, k3⟩, hi⟩
  · obtain ⟨g, cs, rfl, hg, hc⟩ := h3 hp
    exact ⟨g, 0, cs, (0, 0), rfl, hg⟩
end Go.Proofs.Ytjmbpeniibdnoaa

namespace Go.Proofs.Ytjmbpeniibdnoaa
open Go.RowKit

theorem list_of {α : Type} (d : α) (P : Nat → α → Prop) (n : Nat) (h : ∀ j, j < n → ∃ x, P j x) : ∃ l : List α, l.length = n ∧ ∀ j, j < n → P j (l.getD j d) := by
  induction n with
  | zero => exact ⟨[], rfl, fun j hj => absurd hj (by omega)⟩
  | succ n ih =>
    obtain ⟨l, h1, h2⟩ := ih fun j hj => h j (by omega)
    obtain ⟨x, hx⟩ := h n (by omega)
    refine ⟨l ++ [x], by rw [List.length_append, h1]; rfl, fun j hj => ?_⟩
    rcases Nat.lt_or_ge j n with h3 | h3
    · rw [List.getD_eq_getElem?_getD, List.getElem?_append_left (by omega), ← List.getD_eq_getElem?_getD]
      exact h2 j h3
    · have : j = n := by omega
      subst this
      rw [List.getD_eq_getElem?_getD, List.getElem?_append_right (by omega), h1, Nat.sub_self]
      exact hx
theorem getD_app_one {α : Type} (l : List α) (x d : α) (n : Nat) (h : l.length = n) : (l ++ [x]).getD n d = x := by
  rw [List.getD_eq_getElem?_getD, List.getElem?_append_right (by omega), h, Nat.sub_self]; rfl
/-- The cells of a slice of rationals that is read. -/
theorem RdQ.news {W : World} {a : Addr} {n : Nat} {X : List Rat} (h : RdQ W (some a) n X) : ∃ l : List RC, l.length = n ∧ (∀ j u, (gcl KQ.cl l)[j]? = some u → W.cell? (a.add j) = some u) ∧ ∀ j, j < n → KQ.Is W (l.getD j KQ.d) (X.getD j KQ.e) := by
  rcases Nat.eq_zero_or_pos n with h0 | h0
  · subst h0
    exact ⟨[], rfl, fun j u hu => by simp [gcl] at hu, fun j hj => absurd hj (by omega)⟩
  · obtain ⟨g, off, e, hg, hc⟩ := h.2.2.1 h0
    cases e
    obtain ⟨l, h1, h2⟩ := list_of RC.zero (fun j x => At4 W g (off + j * 4) x ∧ x.Is W (X.getD j 0)) n hc
    refine ⟨l, h1, fun j u hu => ?_, fun j hj => (h2 j hj).2⟩
    have hlt : j < l.length * 4 := by
      have := (List.getElem?_eq_some_iff.1 hu).1
      rw [gcl_len KQ.ok] at this
      exact this
    have hj4 : j / 4 < n := by omega
    have hm : j % 4 < 4 := Nat.mod_lt _ (by omega)
    have e1 := gcl_at KQ.ok l (j / 4) (j % 4) (by omega) hm
    rw [show j / 4 * KQ.sz + j % 4 = j by show j / 4 * 4 + j % 4 = j; omega, hu] at e1
    have ha : (⟨g, off, none⟩ : Addr).add j = ⟨g, off + j / 4 * 4 + j % 4, none⟩ := by
      simp only [Addr.add]
      rw [show off + j / 4 * 4 + j % 4 = off + j by omega]
      first | rfl | (split <;> simp_all) | simp
    rw [ha]
    obtain ⟨k0, k1, k2, k3⟩ := (h2 (j / 4) hj4).1
    generalize j % 4 = m at *
    have e2 : (RC.cells (l.getD (j / 4) RC.zero))[m]? = some u := e1.symm
    match m, hm with
    | 0, _ => cases e2; exact k0
    | 1, _ => cases e2; exact k1
    | 2, _ => cases e2; exact k2
    | 3, _ => cases e2; exact k3
set_option maxHeartbeats 4000000
set_option maxRecDepth 100000
theorem clone_calls (A : Option Addr) (n c : Nat) (X : List Rat) (w : World) (h : RdQ w A n X) :
    Calls Try.prog 36 #[.slice A n c] w fun e w' => (∃ v, e = .returned v ∧ KQ.Own w' w.heap.size v n X) ∧ Below w.heap.size w w' := by
  have hn := h.2.1
  cases A with
  | none =>
    have h0 : n = 0 := by
      rcases Nat.eq_zero_or_pos n with h0 | h0
      · exact h0
      · obtain ⟨g, off, e, _⟩ := h.2.2.1 h0
        cases e
    subst h0
    have hX : X = [] := List.eq_nil_of_length_eq_zero h.1
    subst hX
    have q := Lib.run_eql_slice_nil (P := Try.prog) w 58 63 none 0 c 0 0 Try.underlying58
    go_enter Try.func36, Try.ntmps36
    go_wp2
    go_ret
    exact ⟨⟨_, rfl, Kind.Own.nil _ _⟩, Below.refl _ _⟩
  | some a =>
    have q := Lib.run_eql_slice_nil (P := Try.prog) w 58 63 (some a) n c 0 0 Try.underlying58
    have O0 : KQ.Own (w.alloc (.cells #[] 63)) w.heap.size (.slice (some ⟨w.heap.size, 0, none⟩) 0 0) 0 [] :=
      ⟨[], ⟨rfl, .inr ⟨w.heap.size, 0, #[], rfl, Nat.le_refl _, heap_alloc_new w _, Nat.le_refl _, by simp only [maxLen]; omega, rfl, rfl⟩⟩, rfl, rfl, fun j hj => absurd hj (by omega)⟩
    have hl := h.1
    obtain ⟨l, h1, h2, h3⟩ := (h.below (bl_alloc (Below.refl _ _) (.cells #[] 63))).news
    have B1 := bl_alloc (Below.refl w.heap.size w) (.cells #[] 63)
    obtain ⟨v', W', hrun, O2, hgr⟩ := appg (c := c) KQ.ok 58 _ 64 info_rat Try.underlying58 rfl (by omega) O0 l h1 hl h2 h3 (by omega) B1.size
    have HR := Lib.hid hrun
    rw [Nat.zero_add] at O2
    have HO := Lib.hid O2
    have V2 : Hid (Below w.heap.size w W') := Lib.hid (below_of_grown B1 hgr B1.size O0.ge)
    clear hrun O2 hgr O0 h1 h2 h3 h B1
    go_enter Try.func36, Try.ntmps36
    go_wp2_with (at_builtin; refine wpList_ap rfl (.tmp 5) (.tmp 6) 58 (by rfl) _ _ (by rfl) (by rfl) _ (by rfl) _ _ HR.out ?_)
    go_ret
    exact ⟨⟨_, rfl, HO.out⟩, V2.out⟩
end Go.Proofs.Ytjmbpeniibdnoaa

namespace Go.Proofs.Ytjmbpeniibdnoaa
open Go.RowKit

structure IC where
  v : Int
  A : Option Addr
  n : Nat
  c : Nat
def IC.Is (w : World) (x : IC) (z : Int) : Prop := IntV w x.v x.A x.n x.c z
def KJ : Kind IC Int := ⟨fun y => [.int .i64 y.v, .slice y.A y.n y.c], 2, 61, IC.Is, ⟨0, none, 0, 0⟩, 0⟩
theorem KJ.ok : KJ.Ok := ⟨fun _ => rfl, by decide, fun y u hu => by simp [KJ] at hu; rcases hu with rfl | rfl <;> rfl, fun W W' y r h k => IntV.kp h (k _ (by decide)), fun W W' y r h k => IntV.below h k⟩
def OwnJ (w : World) (base g n cap : Nat) (X : List Int) : Prop := KJ.Own w base (.slice (some ⟨g, 0, none⟩) n cap) n X
theorem gcl_set2 (l : List IC) (j : Nat) (x : IC) : ((gcl KJ.cl l).set (j * 2) (.int .i64 x.v)).set (j * 2 + 1) (.slice x.A x.n x.c) = gcl KJ.cl (l.set j x) := by
  induction l generalizing j with
  | nil => simp [gcl]
  | cons y l ih =>
    cases j with
    | zero => rfl
    | succ j =>
      have h2 : (KJ.cl y).length = 2 := rfl
      show ((KJ.cl y ++ gcl KJ.cl l).set ((j + 1) * 2) _).set _ _ = KJ.cl y ++ gcl KJ.cl (l.set j x)
      rw [← ih j]
      rw [show (j + 1) * 2 = (KJ.cl y).length + j * 2 by rw [h2]; omega]
      simp only [Nat.add_assoc, List.set_append_right _ _ (Nat.le_add_right _ _), Nat.add_sub_cancel_left]
section
variable {w w' w0 : World} {base g n cap B : Nat} {X : List Int}
theorem OwnJ.below (h : OwnJ w base g n cap X) (hb : Below w.heap.size w w') : OwnJ w' base g n cap X := Kind.Own.below KJ.ok h hb
theorem OwnJ.al (h : OwnJ w base g n cap X) (o : Obj) : OwnJ (w.alloc o) base g n cap X := h.below (bl_alloc (Below.refl _ _) o)
theorem OwnJ.dr (h : OwnJ w base g n cap X) : OwnJ w.drew base g n cap X := h.below (bl_drew (Below.refl _ _))
theorem OwnJ.far (h : OwnJ w base g n cap X) (e : w'.heap[g]? = w.heap[g]?) (k : Kp 118 w w') : OwnJ w' base g n cap X := by
  obtain ⟨l, h1, h2, h3, h4⟩ := h
  exact ⟨l, own_heap h1 e, h2, h3, fun j hj => IntV.kp (h4 j hj) k⟩
theorem OwnJ.frozen (h : OwnJ w base g n cap X) (j : Nat) : w.frozen? ⟨g, j, none⟩ = false := by
  obtain ⟨l, h1, _⟩ := h
  exact h1.frozenAt j
theorem OwnJ.ge (h : OwnJ w base g n cap X) : base ≤ g ∧ g < w.heap.size := by
  obtain ⟨l, h1, _⟩ := h
  exact h1.lt g rfl
theorem OwnJ.len (h : OwnJ w base g n cap X) : X.length = n := by
  obtain ⟨l, h1, h2, h3, _⟩ := h
  exact h3
theorem OwnJ.at (h : OwnJ w base g n cap X) (j : Nat) (hj : j < n) : ∃ y : IC, w.cell? ⟨g, j * 2, none⟩ = some (.int .i64 y.v) ∧ w.cell? ⟨g, j * 2 + 1, none⟩ = some (.slice y.A y.n y.c) ∧ y.Is w (X.getD j 0) := by
  obtain ⟨l, h1, h2, h3, h4⟩ := h
  have k : ∀ i, i < 2 → w.cell? ⟨g, j * 2 + i, none⟩ = (KJ.cl (l.getD j KJ.d))[i]? := fun i hi => by
    have e := gcl_at KJ.ok l j i (by omega) hi
    have e2 := h1.cellAt (j * 2 + i) (by show _ < n * 2; omega)
    exact e2.trans e
  exact ⟨_, k 0 (by omega), k 1 (by omega), h4 j hj⟩
theorem OwnJ.blk (h : OwnJ w base g n cap X) : ∃ cs, w.heap[g]? = some (.cells cs 61 (0, 0)) := by
  obtain ⟨l, h1, _⟩ := h
  rcases h1.2 with ⟨h0, _⟩ | ⟨g', cap', cur, hv, hb, hg, r⟩
  · cases h0
  · cases hv; exact ⟨cur, hg⟩
/-- A store of one element. -/
theorem OwnJ.set (h : OwnJ w base g n cap X) (HB : Below B w0 w) (hB : B ≤ base) (j : Nat) (hj : j < n) (v : Int) (A : Option Addr) (m c : Nat) (z : Int) (hx : IntV w v A m c z) :
    OwnJ ((w.setCell ⟨g, j * 2, none⟩ (.int .i64 v)).setCell ⟨g, j * 2 + 1, none⟩ (.slice A m c)) base g n cap (X.set j z) ∧
    Below B w0 ((w.setCell ⟨g, j * 2, none⟩ (.int .i64 v)).setCell ⟨g, j * 2 + 1, none⟩ (.slice A m c)) := by
  obtain ⟨cs, hb⟩ := h.blk
  have hge := h.ge
  have kp : Kp 118 w ((w.setCell ⟨g, j * 2, none⟩ (.int .i64 v)).setCell ⟨g, j * 2 + 1, none⟩ (.slice A m c)) :=
    ((Kp.refl _ _).set (p := ⟨g, j * 2, none⟩) hb (by decide) _).set (p := ⟨g, j * 2 + 1, none⟩) (blk_set hb (j * 2) _) (by decide) _
  obtain ⟨l, h1, h2, h3, h4⟩ := h
  refine ⟨⟨l.set j ⟨v, A, m, c⟩, ?_, by simpa using h2, by simpa using h3, fun i hi => ?_⟩, (HB.setCell (Nat.le_trans hB hge.1) _).setCell (Nat.le_trans hB hge.1) _⟩
  · rw [← gcl_set2]
    exact ((h1.stored (j * 2) _).1.stored (j * 2 + 1) _).1
  · by_cases e : i = j
    · subst e
      rw [List.getD_eq_getElem?_getD, List.getD_eq_getElem?_getD, List.getElem?_set_self (by omega), List.getElem?_set_self (by omega)]
      exact IntV.kp hx kp
    · rw [List.getD_eq_getElem?_getD, List.getD_eq_getElem?_getD, List.getElem?_set_ne (by omega), List.getElem?_set_ne (by omega), ← List.getD_eq_getElem?_getD, ← List.getD_eq_getElem?_getD]
      exact IntV.kp (h4 i hi) kp
end
theorem made_cells2 (n : Nat) : (madeCells #[.int .i64 0, .slice none 0 0] (n * 2)).toList = gcl KJ.cl (List.replicate n KJ.d) := by
  apply List.ext_getElem?
  intro j
  rcases Nat.lt_or_ge j (n * 2) with h | h
  · have h1 := gcl_at KJ.ok (List.replicate n KJ.d) (j / 2) (j % 2) (by rw [List.length_replicate]; omega) (Nat.mod_lt _ (by decide))
    rw [show j / 2 * KJ.sz + j % 2 = j by show j / 2 * 2 + j % 2 = j; omega] at h1
    rw [h1, List.getD_eq_getElem?_getD, List.getElem?_replicate, if_pos (by omega : j / 2 < n)]
    have h2 : (madeCells #[Value.int .i64 0, .slice none 0 0] (n * 2)).toList[j]? = some ((#[Value.int .i64 0, .slice none 0 0])[j % 2]!) := by
      unfold madeCells
      simp [h]
    rw [h2]
    have h4 : j % 2 < 2 := by omega
    generalize j % 2 = m at *
    match m, h4 with
    | 0, _ => rfl
    | 1, _ => rfl
  · rw [List.getElem?_eq_none (by rw [Array.length_toList, size_madeCells]; exact h), List.getElem?_eq_none (by rw [gcl_len KJ.ok, List.length_replicate]; exact h)]
/-- make([]Int, n). -/
theorem made_j (n : Nat) (hn : n ≤ 1000000) : ∃ cs : Array Value, (∀ (W : World) (base g : Nat), g = W.heap.size → base ≤ W.heap.size → OwnJ (W.alloc (.cells cs 61)) base g n n (List.replicate n 0)) ∧ ∀ W, (Instr.makeSlice 78 (.int .i64 (n : Nat)) (.int .i64 (n : Nat))).run Try.prog W = .ok (.slice (some ⟨W.heap.size, 0, none⟩) n n) (W.alloc (.cells cs 61)) := by
  have hinfo : (Try.prog.info? 61).map (fun i => (i.zero, i.size, i.bytes)) = some (some (.agg #[.int .i64 0, .slice none 0 0]), 2, 32) := by kernel_rfl
  obtain ⟨i, hi, hz0, hz1, hz2⟩ := info_parts hinfo
  have hz := made_cells2 n
  have hs : (madeCells #[Value.int .i64 0, .slice none 0 0] (n * 2)).size = n * 2 := size_madeCells _ _
  generalize hcs : madeCells #[Value.int .i64 0, .slice none 0 0] (n * 2) = cs at hz hs
  refine ⟨cs, fun W base g hg hb => ?_, fun W => ?_⟩
  · subst hg
    refine ⟨List.replicate n KJ.d, ⟨by rw [gcl_len KJ.ok, List.length_replicate], .inr ⟨W.heap.size, n, cs, rfl, hb, heap_alloc_new W _, Nat.le_refl _, by simp only [maxLen]; omega, hs, by rw [List.take_of_length_le (by rw [Array.length_toList, hs]; exact Nat.le_refl _), hz]⟩⟩, by simp, by simp, fun j hj => ?_⟩
    rw [List.getD_eq_getElem?_getD, List.getD_eq_getElem?_getD, List.getElem?_replicate, List.getElem?_replicate, if_pos hj, if_pos hj]
    exact IntV.small _ (by decide) (by decide)
  · have h := run_make (P := Try.prog) W 78 61 i _ Try.underlying78 hi hz0 .i64 .i64 (n : Nat) (n : Nat) (by omega) (Int.le_refl _) (by rw [hz2]; omega) (by omega)
    rw [hz1, Int.toNat_natCast] at h
    rw [← hcs]
    exact h
end Go.Proofs.Ytjmbpeniibdnoaa

namespace Go.Proofs.Ytjmbpeniibdnoaa
open Go
section
variable {P : Program} {md : Region.Mode} {ops : Array Oper} {Q : Exit → Act → World → Prop} {S : World → Prop}

/-- As wpAnyH, but S is asked only while the operation n has not come up. -/
def wpU (P : Program) (md : Region.Mode) (ops : Array Oper) (n : Nat) (Q : Exit → Act → World → Prop) (S : World → Prop) : Nat → Array Bool → Act → World → Prop
  | 0, listed, a, w => Region.ready md ops listed = [] ∧ Q .normal a w
  | fuel + 1, listed, a, w =>
    (Region.ready md ops listed = [] → Q .normal a w) ∧
    ∀ i ∈ Region.ready md ops listed, wpOp P ops Q i (fun a' w' => (listed.getD n false = false → i ≠ n → S w') ∧ wpU P md ops n Q S fuel (listed.setIfInBounds i true) a' w') a w
theorem wpAny_of_U {n : Nat} : ∀ (fuel : Nat) (listed : Array Bool) (a : Act) (w : World), wpU P md ops n Q S fuel listed a w → wpAny P md ops Q fuel listed a w
  | 0, _, _, _, h => h
  | fuel + 1, _, _, _, h => ⟨h.1, fun i hi => wpOp_mono (fun a' w' h' => wpAny_of_U fuel _ a' w' h'.2) (h.2 i hi)⟩
theorem wpU_first {n i : Nat} {oi : Oper} {v : Value} (hin : i ≠ n) (hw : Region.waitsFor md ops n i = true) (hi : ops[i]? = some oi) (hsel : ∀ (j : Nat) (o : Oper) cs b, ops[j]? = some o → o.op ≠ .select cs b)
    (hQ : ∀ c a w, Q (.panic c) (a.put oi.dst v) w → Q (.panic c) a w) :
    ∀ (fuel : Nat) (listed : Array Bool) (a : Act) (w : World),
      (∀ j oj, ops[j]? = some oj → j ≠ i → listed.getD j true = false → (∀ e ∈ oj.after, Region.binds md e = true → e.on ≠ i) → oi.apart ops oj = true) →
      listed.getD n false = false → i ∈ Region.ready md ops listed → YieldsIf P ops S oi v a → S w →
      wpU P md ops n Q S fuel (listed.setIfInBounds i true) (a.put oi.dst v) w → wpU P md ops n Q S (fuel + 1) listed a w := by
  intro fuel
  induction fuel with
  | zero =>
    intro listed a w _ hln hr hy hS H
    refine ⟨fun h => (by rw [h] at hr; cases hr), fun j hj => ?_⟩
    by_cases hji : j = i
    · subst hji; exact hy.wpOp hi hS ⟨fun _ _ => hS, H⟩
    · have h2 := ready_mono hj hji
      rw [H.1] at h2
      cases h2
  | succ fuel ih =>
    intro listed a w hfree hln hr hy hS H
    refine ⟨fun h => (by rw [h] at hr; cases hr), fun j hj => ?_⟩
    by_cases hji : j = i
    · subst hji; exact hy.wpOp hi hS ⟨fun _ _ => hS, H⟩
    · have h1 := H.2 j (ready_mono hj hji)
      obtain ⟨hjun, oj, hoj, hall⟩ := mem_ready.1 hj
      have h0 := (mem_ready.1 hr).1
      have hun : listed.getD i false = false := getD_both h0
      have hnot : ∀ e ∈ oj.after, Region.binds md e = true → e.on ≠ i := fun e he hb heq => by
        have h3 := hall e he hb
        rw [heq, hun] at h3
        cases h3
      have hjn : j ≠ n := by
        rintro rfl
        obtain ⟨o', ho', e, he, hb, hon⟩ := Region.waitsFor_spec hw
        have : o' = oj := Option.some.inj (ho'.symm.trans hoj)
        subst this
        exact hnot e he hb hon
      have h2 := wpOp_putIf hoj (hfree j oj hoj hji hjun hnot) (fun cs b => hsel i oi cs b hi) (fun cs b => hsel j oj cs b hoj) hQ hy h1
      refine wpOp_mono (fun a' w' h3 => ⟨fun _ _ => h3.2.1 (by rw [_root_.Go.getD_set_ne false (Ne.symm hin.symm)]; exact hln) hjn, ih (listed.setIfInBounds j true) a' w' ?_ (by rw [_root_.Go.getD_set_ne false hjn]; exact hln) (ready_mono hr (Ne.symm hji)) h3.1 (h3.2.1 (by rw [_root_.Go.getD_set_ne false (Ne.symm hin.symm)]; exact hln) hjn) ?_⟩) h2
      · intro k ok hk hki hun2 hno
        refine hfree k ok hk hki ?_ hno
        by_cases hjk : j = k
        · subst hjk; exact hjun
        · rwa [_root_.Go.getD_set_ne true hjk] at hun2
      · rw [Array.setIfInBounds_comm _ _ hji]
        exact h3.2.2
/-- The moves: take a load first; the one operation that may come up; the end; the beginning. -/
theorem wpU_take {n i : Nat} {oi : Oper} {v : Value} {fuel : Nat} {listed : Array Bool} {a : Act} {w : World} (hin : i ≠ n) (hw : Region.waitsFor md ops n i = true) (hi : ops[i]? = some oi)
    (hs : Region.noSelect ops = true) (hf : Region.free md ops listed i = true) (hr : (Region.ready md ops listed).contains i = true)
    (hQ : ∀ c a w, Q (.panic c) (a.put oi.dst v) w → Q (.panic c) a w) (hln : listed.getD n false = false) (hy : YieldsIf P ops S oi v a) (hS : S w)
    (h : wpU P md ops n Q S fuel (listed.setIfInBounds i true) (a.put oi.dst v) w) : wpU P md ops n Q S (fuel + 1) listed a w :=
  wpU_first hin hw hi (Region.noSelect_spec hs) hQ fuel listed a w (Region.free_spec hi hf) hln (by simpa using hr) hy hS h
theorem wpU_one {n i : Nat} {o : Oper} {fuel : Nat} {listed : Array Bool} {a : Act} {w : World} (hr : Region.ready md ops listed = [i]) (ho : ops[i]? = some o)
    (h : ∀ K' : Act → World → Prop, Shut (∀ a w, (listed.getD n false = false → i ≠ n → S w) → ((listed.getD n false = false → i ≠ n → S w) → wpU P md ops n Q S fuel (listed.setIfInBounds i true) a w) → K' a w) → if Region.wanted o (yielded ops a.tmps) = true then Oper.wp P o a w K' Q else K' (a.put o.dst undef) w) :
    wpU P md ops n Q S (fuel + 1) listed a w := by
  refine ⟨fun h0 => (by rw [h0] at hr; cases hr), fun j hj => ?_⟩
  rw [hr, List.mem_singleton] at hj
  subst hj
  exact wpOp_step ho (fun K' hK => h K' (fun a w hS hW => hK a w ⟨hS, hW hS⟩))
theorem wpU_two {n i k : Nat} {o o2 : Oper} {fuel : Nat} {listed : Array Bool} {a : Act} {w : World} (hr : Region.ready md ops listed = [i, k]) (ho : ops[i]? = some o) (ho2 : ops[k]? = some o2)
    (h : ∀ K' : Act → World → Prop, Shut (∀ a w, (listed.getD n false = false → i ≠ n → S w) → ((listed.getD n false = false → i ≠ n → S w) → wpU P md ops n Q S fuel (listed.setIfInBounds i true) a w) → K' a w) → if Region.wanted o (yielded ops a.tmps) = true then Oper.wp P o a w K' Q else K' (a.put o.dst undef) w)
    (h2 : ∀ K' : Act → World → Prop, Shut (∀ a w, (listed.getD n false = false → k ≠ n → S w) → ((listed.getD n false = false → k ≠ n → S w) → wpU P md ops n Q S fuel (listed.setIfInBounds k true) a w) → K' a w) → if Region.wanted o2 (yielded ops a.tmps) = true then Oper.wp P o2 a w K' Q else K' (a.put o2.dst undef) w) :
    wpU P md ops n Q S (fuel + 1) listed a w := by
  refine ⟨fun h0 => (by rw [h0] at hr; cases hr), fun j hj => ?_⟩
  rw [hr] at hj
  rcases List.mem_cons.1 hj with rfl | hj
  · exact wpOp_step ho (fun K' hK => h K' (fun a w hS hW => hK a w ⟨hS, hW hS⟩))
  · rw [List.mem_singleton] at hj
    subst hj
    exact wpOp_step ho2 (fun K' hK => h2 K' (fun a w hS hW => hK a w ⟨hS, hW hS⟩))
theorem wpU_done {n : Nat} {listed : Array Bool} {a : Act} {w : World} (hr : Region.ready md ops listed = []) (h : Q .normal a w) : ∀ fuel, wpU P md ops n Q S fuel listed a w
  | 0 => ⟨hr, h⟩
  | _ + 1 => ⟨fun _ => h, fun i hi => (by rw [hr] at hi; cases hi)⟩
theorem wp_region_U {n : Nat} {id : Nat} {a : Act} {w : World} (S : World → Prop) (hm : P.follows .mixedOrders = true)
    (h : wpU P .any ops n Q S ops.size (Array.replicate ops.size false) a w.drew) : (Code.region id ops true).wp P Q a w :=
  wp_region_any hm (wpAny_of_U _ _ _ _ h)
end
end Go.Proofs.Ytjmbpeniibdnoaa
