/- Slices of rationals. -/
import Derived.Test.YtjmbpeniibdnoaaRat4
set_option linter.unusedVariables false
set_option linter.unusedSimpArgs false
namespace Go.Proofs.Ytjmbpeniibdnoaa
open Go.RowKit

/-- The cells of a rational. -/
structure RC where
  v : Int
  A : Option Addr
  n : Nat
  c : Nat
  v' : Int
  A' : Option Addr
  n' : Nat
  c' : Nat
def RC.cells (x : RC) : List Value := [.int .i64 x.v, .slice x.A x.n x.c, .int .i64 x.v', .slice x.A' x.n' x.c']
def RC.zero : RC := ⟨0, none, 0, 0, 0, none, 0, 0⟩
def RC.Is (w : World) (x : RC) (q : Rat) : Prop := RatV w x.v x.A x.n x.c x.v' x.A' x.n' x.c' q
theorem RC.zero_is (w : World) : RC.Is w RC.zero 0 := ⟨IntV.small _ (by decide) (by decide), 0, IntV.small _ (by decide) (by decide), .inr ⟨rfl, rfl⟩⟩
theorem RC.Is.below {w w' : World} {x : RC} {q : Rat} (h : x.Is w q) (hb : Below w.heap.size w w') : x.Is w' q := RatV.below h hb
theorem RC.Is.kp {w w' : World} {x : RC} {q : Rat} (h : x.Is w q) (hb : Kp 118 w w') : x.Is w' q := RatV.kp h hb
def rcl : List RC → List Value
  | [] => []
  | x :: l => x.cells ++ rcl l
theorem rcl_len (l : List RC) : (rcl l).length = l.length * 4 := by
  induction l with
  | nil => rfl
  | cons x l ih =>
    show (x.cells ++ rcl l).length = _
    rw [List.length_append, ih, List.length_cons, show x.cells.length = 4 from rfl]; omega
theorem rcl_at (l : List RC) (j i : Nat) (hj : j < l.length) (hi : i < 4) : (rcl l)[j * 4 + i]? = (l.getD j RC.zero).cells[i]? := by
  induction l generalizing j with
  | nil => simp at hj
  | cons x l ih =>
    show (x.cells ++ rcl l)[j * 4 + i]? = _
    cases j with
    | zero => rw [Nat.zero_mul, Nat.zero_add, List.getElem?_append_left (by show i < 4; exact hi)]; rfl
    | succ j =>
      rw [List.getElem?_append_right (by show 4 ≤ _; omega), show (j + 1) * 4 + i - x.cells.length = j * 4 + i by show _ - 4 = _; omega, ih j (by simpa using hj)]
      simp
theorem rcl_set (l : List RC) (j : Nat) (x : RC) : ((((rcl l).set (j * 4) (.int .i64 x.v)).set (j * 4 + 1) (.slice x.A x.n x.c)).set (j * 4 + 2) (.int .i64 x.v')).set (j * 4 + 3) (.slice x.A' x.n' x.c') = rcl (l.set j x) := by
  induction l generalizing j with
  | nil => simp [rcl]
  | cons y l ih =>
    cases j with
    | zero => rfl
    | succ j =>
      have h4 : y.cells.length = 4 := rfl
      show ((((y.cells ++ rcl l).set ((j + 1) * 4) _).set _ _).set _ _).set _ _ = y.cells ++ rcl (l.set j x)
      rw [← ih j]
      rw [show (j + 1) * 4 = y.cells.length + j * 4 by rw [h4]; omega]
      simp only [Nat.add_assoc, List.set_append_right _ _ (Nat.le_add_right _ _), Nat.add_sub_cancel_left]
theorem own_heap {w w' : World} {base n cap g sz : Nat} {e : TypeId} {xs : List Value} (h : w.ownsRow base e sz (.slice (some ⟨g, 0, none⟩) n cap) n xs) (hh : w'.heap[g]? = w.heap[g]?) : w'.ownsRow base e sz (.slice (some ⟨g, 0, none⟩) n cap) n xs := by
  refine ⟨h.1, ?_⟩
  rcases h.2 with ⟨h0, _⟩ | ⟨g', cap', cur, hv, hb, hg, r⟩
  · cases h0
  · cases hv
    exact .inr ⟨g, cap, cur, rfl, hb, hh.trans hg, r⟩
section
variable {w w' : World} {base n cap g : Nat} {l : List RC} {e : TypeId}
theorem ownq_at (h : w.ownsRow base e 4 (.slice (some ⟨g, 0, none⟩) n cap) n (rcl l)) (j : Nat) (hj : j < n) :
    w.cell? ⟨g, j * 4, none⟩ = some (.int .i64 (l.getD j RC.zero).v) ∧ w.cell? ⟨g, j * 4 + 1, none⟩ = some (.slice (l.getD j RC.zero).A (l.getD j RC.zero).n (l.getD j RC.zero).c) ∧
    w.cell? ⟨g, j * 4 + 2, none⟩ = some (.int .i64 (l.getD j RC.zero).v') ∧ w.cell? ⟨g, j * 4 + 3, none⟩ = some (.slice (l.getD j RC.zero).A' (l.getD j RC.zero).n' (l.getD j RC.zero).c') := by
  have hl : l.length = n := by have := h.1; rw [rcl_len] at this; omega
  have k : ∀ i, i < 4 → w.cell? ⟨g, j * 4 + i, none⟩ = (l.getD j RC.zero).cells[i]? := fun i hi => by rw [h.cellAt _ (by omega), rcl_at l j i (by omega) hi]
  exact ⟨k 0 (by omega), k 1 (by omega), k 2 (by omega), k 3 (by omega)⟩
theorem ownq_set {w0 : World} {B : Nat} (h : w.ownsRow base e 4 (.slice (some ⟨g, 0, none⟩) n cap) n (rcl l)) (HB : Below B w0 w) (hB : B ≤ base) (j : Nat) (x : RC) :
    ((((w.setCell ⟨g, j * 4, none⟩ (.int .i64 x.v)).setCell ⟨g, j * 4 + 1, none⟩ (.slice x.A x.n x.c)).setCell ⟨g, j * 4 + 2, none⟩ (.int .i64 x.v')).setCell ⟨g, j * 4 + 3, none⟩ (.slice x.A' x.n' x.c')).ownsRow base e 4 (.slice (some ⟨g, 0, none⟩) n cap) n (rcl (l.set j x)) ∧
    Below B w0 ((((w.setCell ⟨g, j * 4, none⟩ (.int .i64 x.v)).setCell ⟨g, j * 4 + 1, none⟩ (.slice x.A x.n x.c)).setCell ⟨g, j * 4 + 2, none⟩ (.int .i64 x.v')).setCell ⟨g, j * 4 + 3, none⟩ (.slice x.A' x.n' x.c')) := by
  have hg : B ≤ g := Nat.le_trans hB (h.lt g rfl).1
  refine ⟨?_, (((HB.setCell hg _).setCell hg _).setCell hg _).setCell hg _⟩
  rw [← rcl_set]
  exact ((((h.stored (j * 4) _).1.stored (j * 4 + 1) _).1.stored (j * 4 + 2) _).1.stored (j * 4 + 3) _).1
end

/-- What four cells of a block hold. -/
def At4 (w : World) (g o : Nat) (x : RC) : Prop := w.cell? ⟨g, o, none⟩ = some (.int .i64 x.v) ∧ w.cell? ⟨g, o + 1, none⟩ = some (.slice x.A x.n x.c) ∧ w.cell? ⟨g, o + 2, none⟩ = some (.int .i64 x.v') ∧ w.cell? ⟨g, o + 3, none⟩ = some (.slice x.A' x.n' x.c')
theorem At4.below {w w' : World} {g o : Nat} {x : RC} (h : At4 w g o x) (hg : g < w.heap.size) (hb : Below w.heap.size w w') : At4 w' g o x := by
  have k := (cells_below hb).1
  exact ⟨(k _ _ hg).trans h.1, (k _ _ hg).trans h.2.1, (k _ _ hg).trans h.2.2.1, (k _ _ hg).trans h.2.2.2⟩
/-- A slice of rationals that is read. -/
def RdQ (w : World) (A : Option Addr) (n : Nat) (qs : List Rat) : Prop :=
  qs.length = n ∧ n ≤ 1000000 ∧ (0 < n → ∃ g off, A = some ⟨g, off, none⟩ ∧ g < w.heap.size ∧ ∀ j, j < n → ∃ x : RC, At4 w g (off + j * 4) x ∧ x.Is w (qs.getD j 0)) ∧
  (0 < n → ∃ g off cs fr, A = some ⟨g, off, none⟩ ∧ w.heap[g]? = some (.cells cs 63 fr))
theorem RdQ.below {w w' : World} {A : Option Addr} {n : Nat} {qs : List Rat} (h : RdQ w A n qs) (hb : Below w.heap.size w w') : RdQ w' A n qs := by
  refine ⟨h.1, h.2.1, fun hn => ?_, fun hn => ?_⟩
  · obtain ⟨g, off, e, hg, hc⟩ := h.2.2.1 hn
    refine ⟨g, off, e, Nat.lt_of_lt_of_le hg hb.size, fun j hj => ?_⟩
    obtain ⟨x, h1, h2⟩ := hc j hj
    exact ⟨x, h1.below hg hb, h2.below hb⟩
  · obtain ⟨g, off, cs, fr, e, hg⟩ := h.2.2.2 hn
    exact ⟨g, off, cs, fr, e, (Kp.below hb).blk _ _ _ hg⟩
theorem RdQ.nil (w : World) (A : Option Addr) : RdQ w A 0 [] := ⟨rfl, by omega, fun h => absurd h (by omega), fun h => absurd h (by omega)⟩
theorem RdQ.take {w : World} {A : Option Addr} {n m : Nat} {qs : List Rat} (h : RdQ w A n qs) (hm : m ≤ n) : RdQ w A m (qs.take m) := by
  refine ⟨by have := h.1; simp; omega, by have := h.2.1; omega, fun hp => ?_, fun hp => h.2.2.2 (by omega)⟩
  obtain ⟨g, off, e, hg, hc⟩ := h.2.2.1 (by omega)
  refine ⟨g, off, e, hg, fun j hj => ?_⟩
  obtain ⟨x, h1, h2⟩ := hc j (by omega)
  refine ⟨x, h1, ?_⟩
  rw [show (qs.take m).getD j 0 = qs.getD j 0 by simp [List.getD_eq_getElem?_getD, List.getElem?_take, hj]]
  exact h2
/-- A slice of rationals of the call's own, in block g. -/
def OwnQ (w : World) (base g n cap : Nat) (qs : List Rat) : Prop :=
  ∃ l : List RC, w.ownsRow base 63 4 (.slice (some ⟨g, 0, none⟩) n cap) n (rcl l) ∧ qs.length = n ∧ ∀ j, j < n → (l.getD j RC.zero).Is w (qs.getD j 0)
section
variable {w w' : World} {base g n cap : Nat} {qs : List Rat}
theorem OwnQ.below (h : OwnQ w base g n cap qs) (hb : Below w.heap.size w w') : OwnQ w' base g n cap qs := by
  obtain ⟨l, h1, h2, h3⟩ := h
  exact ⟨l, own_alloc_below h1 hb, h2, fun j hj => (h3 j hj).below hb⟩
theorem OwnQ.alloc (h : OwnQ w base g n cap qs) (o : Obj) : OwnQ (w.alloc o) base g n cap qs := by
  obtain ⟨l, h1, h2, h3⟩ := h
  exact ⟨l, h1.alloc o, h2, fun j hj => (h3 j hj).kp ((Kp.refl _ _).alloc o)⟩
theorem OwnQ.drew (h : OwnQ w base g n cap qs) : OwnQ w.drew base g n cap qs := by
  obtain ⟨l, h1, h2, h3⟩ := h
  exact ⟨l, own_heap h1 rfl, h2, fun j hj => (h3 j hj).kp (Kp.refl _ _).drew⟩
theorem OwnQ.far (h : OwnQ w base g n cap qs) (e : w'.heap[g]? = w.heap[g]?) (k : Kp 118 w w') : OwnQ w' base g n cap qs := by
  obtain ⟨l, h1, h2, h3⟩ := h
  exact ⟨l, own_heap h1 e, h2, fun j hj => (h3 j hj).kp k⟩
theorem OwnQ.at (h : OwnQ w base g n cap qs) (j : Nat) (hj : j < n) : ∃ x : RC, At4 w g (j * 4) x ∧ x.Is w (qs.getD j 0) := by
  obtain ⟨l, h1, h2, h3⟩ := h
  exact ⟨_, ownq_at h1 j hj, h3 j hj⟩
theorem OwnQ.frozen (h : OwnQ w base g n cap qs) (j : Nat) : w.frozen? ⟨g, j, none⟩ = false := by
  obtain ⟨l, h1, h2, h3⟩ := h
  exact h1.frozenAt j
theorem OwnQ.ge (h : OwnQ w base g n cap qs) : base ≤ g ∧ g < w.heap.size := by
  obtain ⟨l, h1, h2, h3⟩ := h
  exact h1.lt g rfl
theorem OwnQ.blk (h : OwnQ w base g n cap qs) : ∃ cs, w.heap[g]? = some (.cells cs 63 (0, 0)) := by
  obtain ⟨l, h1, h2, h3⟩ := h
  rcases h1.2 with ⟨h0, _⟩ | ⟨g', cap', cur, hv, hb, hg, r⟩
  · cases h0
  · cases hv; exact ⟨cur, hg⟩
theorem OwnQ.rd (h : OwnQ w base g n cap qs) (hn : n ≤ 1000000) : RdQ w (some ⟨g, 0, none⟩) n qs := by
  refine ⟨h.choose_spec.2.1, hn, fun _ => ⟨g, 0, rfl, h.ge.2, fun j hj => ?_⟩, fun _ => ?_⟩
  · rw [Nat.zero_add]
    exact h.at j hj
  · obtain ⟨cs, hc⟩ := h.blk
    exact ⟨g, 0, cs, (0, 0), rfl, hc⟩
theorem kp_st4 {t : TypeId} {cs : Array Value} (hb : w.heap[g]? = some (.cells cs 63 (0, 0))) (ht : 63 ≠ t) (i1 i2 i3 i4 : Nat) (x1 x2 x3 x4 : Value) :
    Kp t w ((((w.setCell ⟨g, i1, none⟩ x1).setCell ⟨g, i2, none⟩ x2).setCell ⟨g, i3, none⟩ x3).setCell ⟨g, i4, none⟩ x4) := by
  have b1 := blk_set hb i1 x1
  have b2 := blk_set b1 i2 x2
  have b3 := blk_set b2 i3 x3
  exact ((((Kp.refl _ _).set (p := ⟨g, i1, none⟩) hb ht x1).set (p := ⟨g, i2, none⟩) b1 ht x2).set (p := ⟨g, i3, none⟩) b2 ht x3).set (p := ⟨g, i4, none⟩) b3 ht x4
/-- A store of one element. -/
theorem OwnQ.set {w0 : World} {B : Nat} (h : OwnQ w base g n cap qs) (HB : Below B w0 w) (hB : B ≤ base) (j : Nat) (hj : j < n) (v : Int) (A : Option Addr) (m c : Nat) (v' : Int) (A' : Option Addr) (m' c' : Nat) (q : Rat) (hx : RatV w v A m c v' A' m' c' q) :
    OwnQ ((((w.setCell ⟨g, j * 4, none⟩ (.int .i64 v)).setCell ⟨g, j * 4 + 1, none⟩ (.slice A m c)).setCell ⟨g, j * 4 + 2, none⟩ (.int .i64 v')).setCell ⟨g, j * 4 + 3, none⟩ (.slice A' m' c')) base g n cap (qs.set j q) ∧
    Below B w0 ((((w.setCell ⟨g, j * 4, none⟩ (.int .i64 v)).setCell ⟨g, j * 4 + 1, none⟩ (.slice A m c)).setCell ⟨g, j * 4 + 2, none⟩ (.int .i64 v')).setCell ⟨g, j * 4 + 3, none⟩ (.slice A' m' c')) := by
  obtain ⟨cs, hb⟩ := h.blk
  obtain ⟨l, h1, h2, h3⟩ := h
  have hs := ownq_set h1 HB hB j ⟨v, A, m, c, v', A', m', c'⟩
  have hl : l.length = n := by have := h1.1; rw [rcl_len] at this; omega
  have kp := kp_st4 (t := 118) hb (by decide) (j * 4) (j * 4 + 1) (j * 4 + 2) (j * 4 + 3) (.int .i64 v) (.slice A m c) (.int .i64 v') (.slice A' m' c')
  refine ⟨⟨_, hs.1, by simpa using h2, fun i hi => ?_⟩, hs.2⟩
  by_cases e : i = j
  · subst e
    rw [List.getD_eq_getElem?_getD, List.getD_eq_getElem?_getD, List.getElem?_set_self (by omega), List.getElem?_set_self (by omega)]
    exact hx.kp kp
  · rw [List.getD_eq_getElem?_getD, List.getD_eq_getElem?_getD, List.getElem?_set_ne (by omega), List.getElem?_set_ne (by omega), ← List.getD_eq_getElem?_getD, ← List.getD_eq_getElem?_getD]
    exact (h3 i hi).kp kp
end
theorem RatV.al {w : World} {v : Int} {A : Option Addr} {m c : Nat} {v' : Int} {A' : Option Addr} {m' c' : Nat} {q : Rat} (h : RatV w v A m c v' A' m' c' q) (o : Obj) : RatV (w.alloc o) v A m c v' A' m' c' q := h.kp ((Kp.refl _ _).alloc o)
theorem RatV.dr {w : World} {v : Int} {A : Option Addr} {m c : Nat} {v' : Int} {A' : Option Addr} {m' c' : Nat} {q : Rat} (h : RatV w v A m c v' A' m' c' q) : RatV w.drew v A m c v' A' m' c' q := h.kp (Kp.refl _ _).drew
theorem rcl_zero (n : Nat) : rcl (List.replicate n RC.zero) = (List.replicate n [Value.int .i64 0, .slice none 0 0, .int .i64 0, .slice none 0 0]).flatten := by
  induction n with
  | zero => rfl
  | succ n ih => rw [List.replicate_succ, List.replicate_succ, List.flatten_cons, ← ih]; rfl
/-- make([]Rat, n). -/
theorem OwnQ.made {W : World} {base : Nat} (n : Nat) (hb : base ≤ W.heap.size) (hn : n ≤ 1000000) (cs : Array Value) (hc : cs.toList = rcl (List.replicate n RC.zero)) :
    OwnQ (W.alloc (.cells cs 63)) base W.heap.size n n (List.replicate n 0) := by
  have hz : cs.size = n * 4 := by rw [← Array.length_toList, hc, rcl_len, List.length_replicate]
  refine ⟨List.replicate n RC.zero, ⟨by rw [rcl_len, List.length_replicate], .inr ⟨W.heap.size, n, cs, rfl, hb, heap_alloc_new W _, Nat.le_refl _, by simp only [maxLen]; omega, hz, by rw [List.take_of_length_le (by rw [Array.length_toList, hz]; exact Nat.le_refl _), hc]⟩⟩, by simp, fun j hj => ?_⟩
  rw [List.getD_eq_getElem?_getD, List.getD_eq_getElem?_getD, List.getElem?_replicate, List.getElem?_replicate, if_pos hj, if_pos hj]
  exact RC.zero_is _
theorem q6 {w : World} {g : Nat} {t : TypeId} {a b c d e f : Value} (h : w.heap[g]? = some (.cells #[a, b, c, d, e, f] t (0, 0))) : (w.cell? ⟨g, 0, none⟩ = some a ∧ w.cell? ⟨g, 1, none⟩ = some b ∧ w.cell? ⟨g, 2, none⟩ = some c ∧ w.cell? ⟨g, 3, none⟩ = some d ∧ w.cell? ⟨g, 4, none⟩ = some e ∧ w.cell? ⟨g, 5, none⟩ = some f) ∧
    w.frozen? ⟨g, 0, none⟩ = false ∧ w.frozen? ⟨g, 1, none⟩ = false ∧ w.frozen? ⟨g, 2, none⟩ = false ∧ w.frozen? ⟨g, 3, none⟩ = false ∧ w.frozen? ⟨g, 4, none⟩ = false ∧ w.frozen? ⟨g, 5, none⟩ = false :=
  ⟨⟨(blk_cell h 0).1, (blk_cell h 1).1, (blk_cell h 2).1, (blk_cell h 3).1, (blk_cell h 4).1, (blk_cell h 5).1⟩, (blk_cell h 0).2, (blk_cell h 1).2, (blk_cell h 2).2, (blk_cell h 3).2, (blk_cell h 4).2, (blk_cell h 5).2⟩
theorem qx6 {w : World} {g : Nat} {t : TypeId} {a b c d e f : Value} (h : w.heap[g]? = some (.cells #[a, b, c, d, e, f] t (0, 0))) : w.cell? ⟨g, 0, none⟩ = some a ∧ w.cell? ⟨g, 1, none⟩ = some b ∧ w.cell? ⟨g, 2, none⟩ = some c ∧ w.cell? ⟨g, 3, none⟩ = some d ∧ w.cell? ⟨g, 4, none⟩ = some e ∧ w.cell? ⟨g, 5, none⟩ = some f := (q6 h).1
theorem qx4 {w : World} {g : Nat} {t : TypeId} {a b c d : Value} (h : w.heap[g]? = some (.cells #[a, b, c, d] t (0, 0))) : w.cell? ⟨g, 0, none⟩ = some a ∧ w.cell? ⟨g, 1, none⟩ = some b ∧ w.cell? ⟨g, 2, none⟩ = some c ∧ w.cell? ⟨g, 3, none⟩ = some d := ⟨(blk_cell h 0).1, (blk_cell h 1).1, (blk_cell h 2).1, (blk_cell h 3).1⟩
theorem qj6 {A B C D E F X : Prop} (h : A ∧ B ∧ C ∧ D ∧ E ∧ F) (x : X) : A ∧ B ∧ C ∧ D ∧ E ∧ F ∧ X := ⟨h.1, h.2.1, h.2.2.1, h.2.2.2.1, h.2.2.2.2.1, h.2.2.2.2.2, x⟩
theorem qj4 {A B C D X : Prop} (h : A ∧ B ∧ C ∧ D) (x : X) : A ∧ B ∧ C ∧ D ∧ X := ⟨h.1, h.2.1, h.2.2.1, h.2.2.2, x⟩
theorem OwnQ.made_at {W : World} {base g : Nat} (n : Nat) (hg : g = W.heap.size) (hb : base ≤ W.heap.size) (hn : n ≤ 1000000) (cs : Array Value) (hc : cs.toList = rcl (List.replicate n RC.zero)) :
    OwnQ (W.alloc (.cells cs 63)) base g n n (List.replicate n 0) := by
  subst hg
  exact OwnQ.made n hb hn cs hc
section
variable {w w0 : World} {g k base n cap B : Nat} {qs : List Rat} {a1 a2 a3 a4 a5 a6 : Value} {t : TypeId}
theorem q6_set (h : w.heap[g]? = some (.cells #[a1, a2, a3, a4, a5, a6] 65 (0, 0))) (x1 x2 x3 x4 x5 x6 : Value) :
    ((((((w.setCell ⟨g, 0, none⟩ x1).setCell ⟨g, 1, none⟩ x2).setCell ⟨g, 2, none⟩ x3).setCell ⟨g, 3, none⟩ x4).setCell ⟨g, 4, none⟩ x5).setCell ⟨g, 5, none⟩ x6).heap[g]? = some (.cells #[x1, x2, x3, x4, x5, x6] 65 (0, 0)) :=
  blk_set (blk_set (blk_set (blk_set (blk_set (blk_set h 0 x1) 1 x2) 2 x3) 3 x4) 4 x5) 5 x6
theorem q6_kp (h : w.heap[g]? = some (.cells #[a1, a2, a3, a4, a5, a6] 65 (0, 0))) (ht : 65 ≠ t) (x1 x2 x3 x4 x5 x6 : Value) :
    Kp t w ((((((w.setCell ⟨g, 0, none⟩ x1).setCell ⟨g, 1, none⟩ x2).setCell ⟨g, 2, none⟩ x3).setCell ⟨g, 3, none⟩ x4).setCell ⟨g, 4, none⟩ x5).setCell ⟨g, 5, none⟩ x6) :=
  ((((((Kp.refl _ _).set (p := ⟨g, 0, none⟩) h ht x1).set (p := ⟨g, 1, none⟩) (blk_set h 0 x1) ht x2).set (p := ⟨g, 2, none⟩) (blk_set (blk_set h 0 x1) 1 x2) ht x3).set (p := ⟨g, 3, none⟩) (blk_set (blk_set (blk_set h 0 x1) 1 x2) 2 x3) ht x4).set (p := ⟨g, 4, none⟩) (blk_set (blk_set (blk_set (blk_set h 0 x1) 1 x2) 2 x3) 3 x4) ht x5).set (p := ⟨g, 5, none⟩) (blk_set (blk_set (blk_set (blk_set (blk_set h 0 x1) 1 x2) 2 x3) 3 x4) 4 x5) ht x6
theorem q6_far {o : Obj} (h : w.heap[k]? = some o) (hk : k ≠ g) (x1 x2 x3 x4 x5 x6 : Value) :
    ((((((w.setCell ⟨g, 0, none⟩ x1).setCell ⟨g, 1, none⟩ x2).setCell ⟨g, 2, none⟩ x3).setCell ⟨g, 3, none⟩ x4).setCell ⟨g, 4, none⟩ x5).setCell ⟨g, 5, none⟩ x6).heap[k]? = some o :=
  blk_far (blk_far (blk_far (blk_far (blk_far (blk_far h hk) hk) hk) hk) hk) hk
theorem q4_far {o : Obj} {i1 i2 i3 i4 : Nat} (h : w.heap[k]? = some o) (hk : k ≠ g) (x1 x2 x3 x4 : Value) :
    ((((w.setCell ⟨g, i1, none⟩ x1).setCell ⟨g, i2, none⟩ x2).setCell ⟨g, i3, none⟩ x3).setCell ⟨g, i4, none⟩ x4).heap[k]? = some o :=
  blk_far (blk_far (blk_far (blk_far h hk) hk) hk) hk
theorem q6_bl (h : Below B w0 w) (hg : B ≤ g) (x1 x2 x3 x4 x5 x6 : Value) :
    Below B w0 ((((((w.setCell ⟨g, 0, none⟩ x1).setCell ⟨g, 1, none⟩ x2).setCell ⟨g, 2, none⟩ x3).setCell ⟨g, 3, none⟩ x4).setCell ⟨g, 4, none⟩ x5).setCell ⟨g, 5, none⟩ x6) :=
  (((((h.setCell hg _).setCell hg _).setCell hg _).setCell hg _).setCell hg _).setCell hg _
theorem OwnQ.st6 (h : OwnQ w base k n cap qs) (hb : w.heap[g]? = some (.cells #[a1, a2, a3, a4, a5, a6] 65 (0, 0))) (hk : k ≠ g) (x1 x2 x3 x4 x5 x6 : Value) :
    OwnQ ((((((w.setCell ⟨g, 0, none⟩ x1).setCell ⟨g, 1, none⟩ x2).setCell ⟨g, 2, none⟩ x3).setCell ⟨g, 3, none⟩ x4).setCell ⟨g, 4, none⟩ x5).setCell ⟨g, 5, none⟩ x6) base k n cap qs := by
  obtain ⟨cs, hc⟩ := h.blk
  exact h.far (by rw [q6_far hc hk, hc]) (q6_kp hb (by decide) x1 x2 x3 x4 x5 x6)
theorem RV.st6 {v : Int} {A : Option Addr} {m c : Nat} {v' : Int} {A' : Option Addr} {m' c' : Nat} {q : Rat} (h : RatV w v A m c v' A' m' c' q) (hb : w.heap[g]? = some (.cells #[a1, a2, a3, a4, a5, a6] 65 (0, 0))) (x1 x2 x3 x4 x5 x6 : Value) :
    RatV ((((((w.setCell ⟨g, 0, none⟩ x1).setCell ⟨g, 1, none⟩ x2).setCell ⟨g, 2, none⟩ x3).setCell ⟨g, 3, none⟩ x4).setCell ⟨g, 4, none⟩ x5).setCell ⟨g, 5, none⟩ x6) v A m c v' A' m' c' q := h.kp (q6_kp hb (by decide) x1 x2 x3 x4 x5 x6)
end
/-- The first k entries laid, the others 0. -/
def upto (f : Nat → Rat) (n k : Nat) : List Rat := (List.range n).map fun j => if j < k then f j else 0
theorem upto_len (f : Nat → Rat) (n k : Nat) : (upto f n k).length = n := by simp [upto]
theorem upto_zero (f : Nat → Rat) (n : Nat) : List.replicate n 0 = upto f n 0 := by
  apply List.ext_getElem?
  intro j
  unfold upto
  rw [List.getElem?_replicate, List.getElem?_map]
  by_cases h : j < n
  · rw [if_pos h, List.getElem?_range h]; simp
  · rw [if_neg h, List.getElem?_eq_none (by simp; omega)]; rfl
theorem upto_set (f : Nat → Rat) (n k : Nat) (hk : k < n) : (upto f n k).set k (f k) = upto f n (k + 1) := by
  apply List.ext_getElem?
  intro j
  by_cases hj : j = k
  · subst hj
    rw [List.getElem?_set_self (by rw [upto_len]; exact hk)]
    unfold upto
    rw [List.getElem?_map, List.getElem?_range hk]; simp
  · rw [List.getElem?_set_ne (by omega)]
    unfold upto
    rw [List.getElem?_map, List.getElem?_map]
    by_cases h : j < n
    · rw [List.getElem?_range h]
      simp only [Option.map_some]
      by_cases h1 : j < k
      · rw [if_pos h1, if_pos (by omega)]
      · rw [if_neg h1, if_neg (by omega)]
    · rw [List.getElem?_eq_none (by simp; omega)]; rfl
theorem upto_full (f : Nat → Rat) (n : Nat) (l : List Rat) (hl : l.length = n) (h : ∀ j, j < n → f j = l.getD j 0) : upto f n n = l := by
  apply List.ext_getElem?
  intro j
  unfold upto
  rw [List.getElem?_map]
  by_cases hj : j < n
  · rw [List.getElem?_range hj, List.getElem?_eq_getElem (by omega)]
    simp only [Option.map_some, if_pos hj]
    rw [h j hj, List.getD_eq_getElem?_getD, List.getElem?_eq_getElem (by omega)]; rfl
  · rw [List.getElem?_eq_none (by simp; omega), List.getElem?_eq_none (by omega)]; rfl
theorem RV.st4 {w : World} {g : Nat} {cs : Array Value} {i1 i2 i3 i4 : Nat} {v : Int} {A : Option Addr} {m c : Nat} {v' : Int} {A' : Option Addr} {m' c' : Nat} {q : Rat} (h : RatV w v A m c v' A' m' c' q) (hb : w.heap[g]? = some (.cells cs 63 (0, 0))) (x1 x2 x3 x4 : Value) :
    RatV ((((w.setCell ⟨g, i1, none⟩ x1).setCell ⟨g, i2, none⟩ x2).setCell ⟨g, i3, none⟩ x3).setCell ⟨g, i4, none⟩ x4) v A m c v' A' m' c' q := h.kp (kp_st4 hb (by decide) i1 i2 i3 i4 x1 x2 x3 x4)
theorem at4c {w : World} {g o : Nat} {x : RC} (h : At4 w g o x) : w.cell? ⟨g, o, none⟩ = some (.int .i64 x.v) ∧ w.cell? ⟨g, o + 1, none⟩ = some (.slice x.A x.n x.c) ∧ w.cell? ⟨g, o + 2, none⟩ = some (.int .i64 x.v') ∧ w.cell? ⟨g, o + 3, none⟩ = some (.slice x.A' x.n' x.c') := h
theorem At4.heap {w w' : World} {g o : Nat} {x : RC} (h : At4 w g o x) (e : w'.heap[g]? = w.heap[g]?) : At4 w' g o x :=
  ⟨(World.cell?_of_block (a := ⟨g, o, none⟩) e).trans h.1, (World.cell?_of_block (a := ⟨g, o + 1, none⟩) e).trans h.2.1, (World.cell?_of_block (a := ⟨g, o + 2, none⟩) e).trans h.2.2.1, (World.cell?_of_block (a := ⟨g, o + 3, none⟩) e).trans h.2.2.2⟩
theorem At4.dr {w : World} {g o : Nat} {x : RC} (h : At4 w g o x) : At4 w.drew g o x := h
theorem At4.al {w : World} {g o : Nat} {x : RC} (h : At4 w g o x) (hg : g < w.heap.size) (p : Obj) : At4 (w.alloc p) g o x := h.heap (Below.heap_alloc w p g hg)
theorem At4.st4 {w : World} {g o k i1 i2 i3 i4 : Nat} {x : RC} (h : At4 w g o x) (hk : g ≠ k) (x1 x2 x3 x4 : Value) : At4 ((((w.setCell ⟨k, i1, none⟩ x1).setCell ⟨k, i2, none⟩ x2).setCell ⟨k, i3, none⟩ x3).setCell ⟨k, i4, none⟩ x4) g o x :=
  h.heap (by rw [heap_setCell_other _ _ _ _ hk, heap_setCell_other _ _ _ _ hk, heap_setCell_other _ _ _ _ hk, heap_setCell_other _ _ _ _ hk])
theorem RdQ.heap {w w' : World} {A : Option Addr} {n : Nat} {qs : List Rat} (h : RdQ w A n qs) (k : Kp 63 w w') (k' : Kp 118 w w') : RdQ w' A n qs := by
  refine ⟨h.1, h.2.1, fun hn => ?_, fun hn => ?_⟩
  · obtain ⟨g, off, e, hg, hc⟩ := h.2.2.1 hn
    obtain ⟨g', off', cs, fr, e', hb⟩ := h.2.2.2 hn
    rw [e] at e'
    injection e' with e'
    injection e' with e1 e2 e3
    subst e1
    have hb' := k.blk _ _ _ hb
    refine ⟨g, off, e, blk_lt hb', fun j hj => ?_⟩
    obtain ⟨x, h1, h2⟩ := hc j hj
    exact ⟨x, h1.heap (by rw [hb', hb]), h2.kp k'⟩
  · obtain ⟨g, off, cs, fr, e, hg⟩ := h.2.2.2 hn
    exact ⟨g, off, cs, fr, e, k.blk _ _ _ hg⟩
theorem q4_set {w : World} {g : Nat} {a1 a2 a3 a4 : Value} (h : w.heap[g]? = some (.cells #[a1, a2, a3, a4] 63 (0, 0))) (x1 x2 x3 x4 : Value) :
    ((((w.setCell ⟨g, 0, none⟩ x1).setCell ⟨g, 1, none⟩ x2).setCell ⟨g, 2, none⟩ x3).setCell ⟨g, 3, none⟩ x4).heap[g]? = some (.cells #[x1, x2, x3, x4] 63 (0, 0)) := blk_set (blk_set (blk_set (blk_set h 0 x1) 1 x2) 2 x3) 3 x4
theorem q4_bl {w w0 : World} {B g i1 i2 i3 i4 : Nat} (h : Below B w0 w) (hg : B ≤ g) (x1 x2 x3 x4 : Value) : Below B w0 ((((w.setCell ⟨g, i1, none⟩ x1).setCell ⟨g, i2, none⟩ x2).setCell ⟨g, i3, none⟩ x3).setCell ⟨g, i4, none⟩ x4) :=
  (((h.setCell hg _).setCell hg _).setCell hg _).setCell hg _
end Go.Proofs.Ytjmbpeniibdnoaa
