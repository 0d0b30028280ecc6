/- Memory: what a slice of numbers reads as, and what keeps that. -/
import Derived.Test.YtjmbpeniibdnoaaProg
import Derived.Test.YtjmbpeniibdnoaaMath
import Derived.WalkKit
import Derived.WalkSpells
import Derived.KernelRfl
import Derived.Deep.QuietTactic
import Derived.BigQuiet
import Derived.Deep.LoopGhost
import Derived.Deep.Draws
import Derived.Maps.AppendAt
import Derived.Lib.Hide
import Derived.Deep.DeepCutAuto
import Derived.Deep.CutBlock
import Derived.Deep.RegionHeld3
set_option linter.unusedVariables false
set_option linter.unusedSimpArgs false
namespace Go.Proofs.Ytjmbpeniibdnoaa
open Go.RowKit

/-- All blocks of type t in w are the same in w'. -/
structure Kp (t : TypeId) (w w' : World) : Prop where
  blk : ∀ (g : Nat) (cs : Array Value) (fr : Nat × Nat), w.heap[g]? = some (.cells cs t fr) → w'.heap[g]? = some (.cells cs t fr)

theorem Kp.refl (t : TypeId) (w : World) : Kp t w w := ⟨fun _ _ _ h => h⟩
theorem Kp.trans {t : TypeId} {a b c : World} (h : Kp t a b) (k : Kp t b c) : Kp t a c := ⟨fun g cs fr x => k.blk g cs fr (h.blk g cs fr x)⟩
theorem Kp.below {t : TypeId} {w w' : World} (h : Below w.heap.size w w') : Kp t w w' :=
  ⟨fun g _ _ x => by rw [h.block g (Array.getElem?_eq_some_iff.1 x).1]; exact x⟩
theorem Kp.alloc {t : TypeId} {a w : World} (h : Kp t a w) (o : Obj) : Kp t a (w.alloc o) :=
  h.trans ⟨fun g _ _ x => by rw [Below.heap_alloc _ _ _ (Array.getElem?_eq_some_iff.1 x).1]; exact x⟩
theorem Kp.drew {t : TypeId} {a w : World} (h : Kp t a w) : Kp t a w.drew := ⟨h.blk⟩
theorem Kp.drewN {t : TypeId} {a w : World} (h : Kp t a w) (n : Nat) : Kp t a (w.drewN n) := ⟨h.blk⟩
theorem Kp.thenBelow {t : TypeId} {a w w' : World} (h : Kp t a w) (k : Below w.heap.size w w') : Kp t a w' := h.trans (Kp.below k)
/-- A store into a block of another type. -/
theorem Kp.set {t : TypeId} {a w : World} (h : Kp t a w) {p : Addr} {cs : Array Value} {t' : TypeId} {fr : Nat × Nat} (hp : w.heap[p.block]? = some (.cells cs t' fr)) (hne : t' ≠ t) (x : Value) : Kp t a (w.setCell p x) :=
  h.trans ⟨fun g cs' fr' k => by
    have : g ≠ p.block := by
      intro e
      subst e
      rw [hp] at k
      injection k with k
      injection k with _ k _
      exact hne k
    rw [Below.heap_setCell _ _ _ _ this]; exact k⟩

/-- A slice value's numbers: n of them, in a block of type t. -/
def RdI (w : World) (t : TypeId) (k : IntKind) (A : Option Addr) (n : Nat) (ds : List Int) : Prop :=
  ds.length = n ∧ n ≤ 9223372036854775807 ∧ (0 < n → ∃ g off cs fr, A = some ⟨g, off, none⟩ ∧ w.heap[g]? = some (.cells cs t fr) ∧ ∀ j, j < n → cs[off + j]? = some (.int k (ds.getD j 0)))

theorem RdI.kp {w w' : World} {t : TypeId} {k : IntKind} {A : Option Addr} {n : Nat} {ds : List Int} (h : RdI w t k A n ds) (e : Kp t w w') : RdI w' t k A n ds :=
  ⟨h.1, h.2.1, fun hn => by
    obtain ⟨g, off, cs, fr, h1, h2, h3⟩ := h.2.2 hn
    exact ⟨g, off, cs, fr, h1, e.blk _ _ _ h2, h3⟩⟩
theorem RdI.below {w w' : World} {t : TypeId} {k : IntKind} {A : Option Addr} {n : Nat} {ds : List Int} (h : RdI w t k A n ds) (e : Below w.heap.size w w') : RdI w' t k A n ds := h.kp (Kp.below e)
theorem RdI.nil (w : World) (t : TypeId) (k : IntKind) (A : Option Addr) : RdI w t k A 0 [] := ⟨rfl, by omega, fun h => absurd h (by omega)⟩

/-- The address, and the cells of a slice that isn't empty. -/
theorem RdI.at_ {w : World} {t : TypeId} {k : IntKind} {A : Option Addr} {n : Nat} {ds : List Int} (h : RdI w t k A n ds) (hn : 0 < n) :
    ∃ g off, A = some ⟨g, off, none⟩ ∧ g < w.heap.size ∧ ∀ j, j < n → w.cell? ⟨g, off + j, none⟩ = some (.int k (ds.getD j 0)) := by
  obtain ⟨g, off, cs, fr, h1, h2, h3⟩ := h.2.2 hn
  exact ⟨g, off, h1, (Array.getElem?_eq_some_iff.1 h2).1, fun j hj => by simp [World.cell?, h2, h3 j hj]⟩

/-- A form of the address that serves for an empty slice, too. -/
theorem RdI.any {w : World} {t : TypeId} {k : IntKind} {A : Option Addr} {n : Nat} {ds : List Int} (h : RdI w t k A n ds) :
    n = 0 ∨ ∃ g off, A = some ⟨g, off, none⟩ ∧ g < w.heap.size ∧ ∀ j, j < n → w.cell? ⟨g, off + j, none⟩ = some (.int k (ds.getD j 0)) := by
  rcases Nat.eq_zero_or_pos n with h0 | h0
  · exact .inl h0
  · exact .inr (h.at_ h0)

/-- The first elements. -/
theorem RdI.take {w : World} {t : TypeId} {k : IntKind} {A : Option Addr} {n m : Nat} {ds : List Int} (h : RdI w t k A n ds) (hm : m ≤ n) : RdI w t k A m (ds.take m) := by
  refine ⟨by have := h.1; simp; omega, by have := h.2.1; omega, fun hp => ?_⟩
  obtain ⟨g, off, cs, fr, h1, h2, h3⟩ := h.2.2 (by omega)
  refine ⟨g, off, cs, fr, h1, h2, fun j hj => ?_⟩
  rw [h3 j (by omega)]
  simp [List.getD_eq_getElem?_getD, List.getElem?_take, hj]

def ints (k : IntKind) (xs : List Int) : List Value := xs.map fun x => .int k x
theorem ints_length (k : IntKind) (xs : List Int) : (ints k xs).length = xs.length := by simp [ints]
theorem ints_snoc (k : IntKind) (xs : List Int) (x : Int) : ints k (xs ++ [x]) = ints k xs ++ [.int k x] := by simp [ints]

/-- A row of the call's own is read. -/
theorem RdI.own {w : World} {base n : Nat} {t : TypeId} {k : IntKind} {v : Value} {xs : List Int} (h : w.ownsRow base t 1 v n (ints k xs)) : ∃ A c, v = .slice A n c ∧ n ≤ c ∧ RdI w t k A n xs ∧ (A = none → n = 0 ∧ c = 0) := by
  have hl : xs.length = n := by have := h.1; simp [ints] at this; exact this
  rcases h.2 with ⟨rfl, rfl⟩ | ⟨g, cap, cur, rfl, hb, hh, hc, hm, hs, ht⟩
  · exact ⟨none, 0, rfl, by omega, ⟨hl, by omega, fun hp => absurd hp (by omega)⟩, fun _ => ⟨rfl, rfl⟩⟩
  · refine ⟨_, cap, rfl, hc, ⟨hl, by simp only [maxLen] at hm; omega, fun hp => ⟨g, 0, cur, (0, 0), rfl, hh, fun j hj => ?_⟩⟩, by simp⟩
    have e : cur.toList[j]? = (ints k xs)[j]? := by
      rw [← ht, List.getElem?_take, if_pos (by omega)]
    rw [Nat.zero_add, ← Array.getElem?_toList, e]
    simp [ints, List.getD_eq_getElem?_getD, List.getElem?_eq_getElem (show j < xs.length by omega)]

/-- The same block under another number of elements. -/
theorem below_of_grown {w w1 : World} {B : Nat} {a : World} (h : Below B a w) {row : Option Nat} (hg : w.grownBy w1 row) (hB : B ≤ w.heap.size) (hr : ∀ k, row = some k → B ≤ k) : Below B a w1 := h.grown hg hB hr
theorem own_ge {w : World} {base : Nat} {e : TypeId} {size n : Nat} {v : Value} {xs : List Value} (h : w.ownsRow base e size v n xs) (k : Nat) (hk : v.ownBlock = some k) : base ≤ k := (h.lt k hk).1
theorem Below.then {B : Nat} {w w1 w2 : World} (h : Below B w w1) (hB : B ≤ w1.heap.size) (k : Below w1.heap.size w1 w2) : Below B w w2 :=
  h.trans (k.mono hB)
theorem bdrewN {B : Nat} {w w1 : World} (h : Below B w w1) (n : Nat) : Below B w (w1.drewN n) := ⟨h.os, h.tape, h.output, h.size, h.block⟩
theorem own_alloc_below {w w1 : World} {base : Nat} {e : TypeId} {size n : Nat} {v : Value} {xs : List Value} (h : w.ownsRow base e size v n xs) (hb : Below w.heap.size w w1) : w1.ownsRow base e size v n xs :=
  h.kept (row := none) ⟨hb.os, hb.tape, hb.output, hb.size, fun i hi _ => hb.block i hi⟩ (by cases v.ownBlock <;> simp)

theorem cells_below {w w1 : World} (hb : Below w.heap.size w w1) : (∀ b o, b < w.heap.size → w1.cell? ⟨b, o, none⟩ = w.cell? ⟨b, o, none⟩) ∧ (∀ b o, b < w.heap.size → w1.frozen? ⟨b, o, none⟩ = w.frozen? ⟨b, o, none⟩) :=
  ⟨fun b o h => hb.cell (p := ⟨b, o, none⟩) h, fun b o h => hb.frozen (p := ⟨b, o, none⟩) h⟩

section
variable {P : Program} {ops : Array Oper} {rest : List Oper} {o : Oper} {a : Act} {Q : Exit → Act → World → Prop}
/-- append(v, x), one number. -/
theorem append_num {w0 W : World} (base : Nat) (hgd : o.guard = none) (s x : Operand) (t e : TypeId) (k : IntKind) (bytes : Nat)
    (ho : o.op = .call { callee := .builtin .append, args := #[s, x], argTypes := #[t, t] })
    (ht : P.underlying t = some (.slice e)) (hinfo : (P.info? e).map (fun i => (i.zero, i.size, i.bytes)) = some (some (.int k 0), 1, bytes)) (hb0 : 0 < bytes)
    (v : Value) (xs : List Int) (y : Int) (hs : a.eval s = v) (hx : a.eval x = .slice (some ⟨W.heap.size, 0, none⟩) 1 1)
    (HO : W.ownsRow base e 1 v xs.length (ints k xs)) (HB : Below base w0 W) (hbase : base ≤ W.heap.size) (hl : (xs.length + 1) * bytes ≤ 140737488355328)
    (h : ∀ v1 w1, w1.ownsRow base e 1 v1 (xs ++ [y]).length (ints k (xs ++ [y])) → Below base w0 w1 → wpList P ops Q rest (a.put o.dst v1) w1) :
    wpList P ops Q (o :: rest) a (W.alloc (.cells #[.int k y] e)) := by
  obtain ⟨i0, hi, hz0, hz1, hz2⟩ := info_parts hinfo
  have hlen : xs.length + 1 ≤ 140737488355328 := Nat.le_trans (Nat.le_mul_of_pos_right _ hb0) hl
  refine wpList_append_own (W.alloc (.cells #[.int k y] e)) hgd s x t ho base e i0 (.int k 0) 1 bytes ht hi hz0 hz1 hz2 rfl (by omega) v xs.length (ints k xs) hs (HO.alloc _) ⟨W.heap.size, 0, none⟩ 1 1 [.int k y] hx rfl
    (cell_one_new _ _ _) (by intro u hu; simp at hu; subst hu; rfl) (by simp only [maxLen]; omega) hl (by simp; omega) ?_
  intro v1 w1 hown hg _
  refine h v1 w1 (by rw [ints_snoc]; simpa using hown) ((HB.alloc hbase _).grown hg (by simp; omega) (fun g hk => own_ge HO g hk))
/-- make([]T, n, c) of numbers. -/
theorem make_num {w0 W : World} (base : Nat) (hgd : o.guard = none) (l c : Operand) (t e : TypeId) (k : IntKind) (bytes : Nat) (hop : o.op = Op.makeSlice t l c)
    (ht : P.underlying t = some (.slice e)) (hinfo : (P.info? e).map (fun i => (i.zero, i.size, i.bytes)) = some (some (.int k 0), 1, bytes))
    (kl kc : IntKind) (L C : Int) (n : Nat) (hl : a.eval l = .int kl L) (hc : a.eval c = .int kc C) (hL : L = (n : Int)) (hC : C = (n : Int)) (b2 : bytes * n ≤ 281474976710656) (hb0 : 0 < bytes)
    (HB : Below base w0 W) (hbase : base ≤ W.heap.size)
    (h : ∀ w1, w1.ownsRow base e 1 (.slice (some ⟨W.heap.size, 0, none⟩) n n) n (ints k (List.replicate n 0)) → Below base w0 w1 → wpList P ops Q rest (a.put o.dst (.slice (some ⟨W.heap.size, 0, none⟩) n n)) w1) :
    wpList P ops Q (o :: rest) a W := by
  obtain ⟨i0, hi, hz0, hz1, hz2⟩ := info_parts hinfo
  have hn : n ≤ 281474976710656 := Nat.le_trans (Nat.le_mul_of_pos_left _ hb0) b2
  refine wpList_make_full W hgd l c t hop base e i0 (.int k 0) 1 ht hi hz0 hz1 kl kc L C n hl hc hL hC (by rw [hz2]; exact b2) (by simp only [maxLen]; omega) hbase ?_
  intro w1 ho hg
  refine h w1 ?_ (HB.grown hg hbase (by simp))
  have : (madeCells (Value.int k 0).cells (n * 1)).toList = ints k (List.replicate n 0) := by
    rw [Nat.mul_one]
    show (madeCells #[Value.int k 0] n).toList = _
    rw [toList_madeCells_one]
    simp [ints]
  rw [← this]
  exact ho

/-- make([]T, 0, n) of numbers. -/
theorem make_cap {w0 W : World} (base : Nat) (hgd : o.guard = none) (l c : Operand) (t e : TypeId) (k : IntKind) (bytes : Nat) (hop : o.op = Op.makeSlice t l c)
    (ht : P.underlying t = some (.slice e)) (hinfo : (P.info? e).map (fun i => (i.zero, i.size, i.bytes)) = some (some (.int k 0), 1, bytes))
    (kl kc : IntKind) (C : Int) (n : Nat) (hl : a.eval l = .int kl 0) (hc : a.eval c = .int kc C) (hC : C = (n : Int)) (b2 : bytes * n ≤ 281474976710656) (hb0 : 0 < bytes)
    (HB : Below base w0 W) (hbase : base ≤ W.heap.size)
    (h : ∀ w1, w1.ownsRow base e 1 (.slice (some ⟨W.heap.size, 0, none⟩) 0 n) 0 (ints k []) → Below base w0 w1 → wpList P ops Q rest (a.put o.dst (.slice (some ⟨W.heap.size, 0, none⟩) 0 n)) w1) :
    wpList P ops Q (o :: rest) a W := by
  obtain ⟨i0, hi, hz0, hz1, hz2⟩ := info_parts hinfo
  have hn : n ≤ 281474976710656 := Nat.le_trans (Nat.le_mul_of_pos_left _ hb0) b2
  refine wpList_make_own W hgd l c t hop base e i0 (.int k 0) 1 ht hi hz0 hz1 kl kc C n hl hc hC (by rw [hz2]; exact b2) (by simp only [maxLen]; omega) hbase ?_
  intro w1 ho hg
  exact h w1 ho (HB.grown hg hbase (by simp))

end

/-- What a row of the call's own holds, and a store into it. -/
theorem own_at {w : World} {base n cap g : Nat} {e : TypeId} {k : IntKind} {xs : List Int} (h : w.ownsRow base e 1 (.slice (some ⟨g, 0, none⟩) n cap) n (ints k xs)) (j : Nat) (hj : j < n) :
    w.cell? ⟨g, j, none⟩ = some (.int k (xs.getD j 0)) ∧ w.frozen? ⟨g, j, none⟩ = false := by
  refine ⟨?_, h.frozenAt j⟩
  rw [h.cellAt j (by omega)]
  have hl : xs.length = n := by have := h.1; simp [ints] at this; exact this
  simp [ints, List.getD_eq_getElem?_getD, List.getElem?_eq_getElem (show j < xs.length by omega)]
theorem own_set {w w0 : World} {base n cap g B : Nat} {e : TypeId} {k : IntKind} {xs : List Int} (h : w.ownsRow base e 1 (.slice (some ⟨g, 0, none⟩) n cap) n (ints k xs)) (HB : Below B w0 w) (hB : B ≤ base) (j : Nat) (x : Int) :
    (w.setCell ⟨g, j, none⟩ (.int k x)).ownsRow base e 1 (.slice (some ⟨g, 0, none⟩) n cap) n (ints k (xs.set j x)) ∧ Below B w0 (w.setCell ⟨g, j, none⟩ (.int k x)) := by
  have hs := h.stored j (.int k x)
  refine ⟨?_, HB.setCell (by have := (h.lt g rfl).1; exact Nat.le_trans hB this) _⟩
  have e : ints k (xs.set j x) = (ints k xs).set j (.int k x) := by simp [ints]
  rw [e]
  exact hs.1
theorem own_len {w : World} {base n : Nat} {e : TypeId} {k : IntKind} {v : Value} {xs : List Int} (h : w.ownsRow base e 1 v n (ints k xs)) : xs.length = n := by have := h.1; simp [ints] at this; exact this

theorem own_snoc_ne {w : World} {base n : Nat} {e : TypeId} {v : Value} {xs : List Value} (h : w.ownsRow base e 1 v n xs) (hn : 0 < n) : v ≠ .slice none 0 0 := by
  intro hv
  subst hv
  rcases h.2 with ⟨_, h0⟩ | ⟨_, _, _, h0, _⟩
  · omega
  · simp at h0

/-- A block of the call's own, through the steps of a walk. -/
theorem blk_at {W : World} {g : Nat} (o : Obj) (h : g = W.heap.size) : (W.alloc o).heap[g]? = some o := by subst h; exact heap_alloc_new W o
theorem blk_lt {w : World} {g : Nat} {o : Obj} (h : w.heap[g]? = some o) : g < w.heap.size := (Array.getElem?_eq_some_iff.1 h).1
theorem blk_alloc {w : World} {g : Nat} {o : Obj} (h : w.heap[g]? = some o) (o' : Obj) : (w.alloc o').heap[g]? = some o := (Below.heap_alloc w o' g (blk_lt h)).trans h
theorem blk_drew {w : World} {g : Nat} {o : Obj} (h : w.heap[g]? = some o) : w.drew.heap[g]? = some o := h
theorem blk_drewN {w : World} {g : Nat} {o : Obj} (h : w.heap[g]? = some o) (n : Nat) : (w.drewN n).heap[g]? = some o := h
theorem blk_below {w w1 : World} {g : Nat} {o : Obj} (h : w.heap[g]? = some o) (hb : Below w.heap.size w w1) : w1.heap[g]? = some o := (hb.block g (blk_lt h)).trans h
theorem blk_set {w : World} {g : Nat} {t : TypeId} {fr : Nat × Nat} {cs : Array Value} (h : w.heap[g]? = some (.cells cs t fr)) (i : Nat) (u : Value) : (w.setCell ⟨g, i, none⟩ u).heap[g]? = some (.cells (cs.setIfInBounds i u) t fr) := by
  simp [World.setCell, Array.getElem?_modify, h]
theorem blk_other {w : World} {g : Nat} {o : Obj} (h : w.heap[g]? = some o) (p : Addr) (hp : p.block ≠ g) (u : Value) : (w.setCell p u).heap[g]? = some o := (Below.heap_setCell w p u g (fun e => hp e.symm)).trans h
theorem blk_cell {w : World} {g : Nat} {t : TypeId} {cs : Array Value} (h : w.heap[g]? = some (.cells cs t (0, 0))) (i : Nat) : w.cell? ⟨g, i, none⟩ = cs[i]? ∧ w.frozen? ⟨g, i, none⟩ = false := by
  constructor
  · simp [World.cell?, h]
  · simp [World.frozen?, h]

theorem blk_set2 {w : World} {g : Nat} {t : TypeId} {a b : Value} (h : w.heap[g]? = some (.cells #[a, b] t (0, 0))) (x y : Value) : ((w.setCell ⟨g, 0, none⟩ x).setCell ⟨g, 1, none⟩ y).heap[g]? = some (.cells #[x, y] t (0, 0)) :=
  blk_set (blk_set h 0 x) 1 y
theorem blk_set4 {w : World} {g : Nat} {t : TypeId} {a b c d : Value} (h : w.heap[g]? = some (.cells #[a, b, c, d] t (0, 0))) (x y z u : Value) : ((((w.setCell ⟨g, 0, none⟩ x).setCell ⟨g, 1, none⟩ y).setCell ⟨g, 2, none⟩ z).setCell ⟨g, 3, none⟩ u).heap[g]? = some (.cells #[x, y, z, u] t (0, 0)) :=
  blk_set (blk_set (blk_set (blk_set h 0 x) 1 y) 2 z) 3 u
/-- What a box of two, of four cells holds. -/
theorem bx2 {w : World} {g : Nat} {t : TypeId} {a b : Value} (h : w.heap[g]? = some (.cells #[a, b] t (0, 0))) : w.cell? ⟨g, 0, none⟩ = some a ∧ w.cell? ⟨g, 1, none⟩ = some b ∧ w.frozen? ⟨g, 0, none⟩ = false ∧ w.frozen? ⟨g, 1, none⟩ = false :=
  ⟨(blk_cell h 0).1, (blk_cell h 1).1, (blk_cell h 0).2, (blk_cell h 1).2⟩
theorem bx4 {w : World} {g : Nat} {t : TypeId} {a b c d : Value} (h : w.heap[g]? = some (.cells #[a, b, c, d] t (0, 0))) : (w.cell? ⟨g, 0, none⟩ = some a ∧ w.cell? ⟨g, 1, none⟩ = some b ∧ w.cell? ⟨g, 2, none⟩ = some c ∧ w.cell? ⟨g, 3, none⟩ = some d) ∧ w.frozen? ⟨g, 0, none⟩ = false ∧ w.frozen? ⟨g, 1, none⟩ = false ∧ w.frozen? ⟨g, 2, none⟩ = false ∧ w.frozen? ⟨g, 3, none⟩ = false :=
  ⟨⟨(blk_cell h 0).1, (blk_cell h 1).1, (blk_cell h 2).1, (blk_cell h 3).1⟩, (blk_cell h 0).2, (blk_cell h 1).2, (blk_cell h 2).2, (blk_cell h 3).2⟩

/-- Steps of a call that leaves all old memory as it is. -/
theorem bl_alloc {w W : World} (h : Below w.heap.size w W) (o : Obj) : Below w.heap.size w (W.alloc o) := h.alloc h.size o
theorem bl_drew {w W : World} (h : Below w.heap.size w W) : Below w.heap.size w W.drew := h.drew
theorem bl_drewN {w W : World} (h : Below w.heap.size w W) (n : Nat) : Below w.heap.size w (W.drewN n) := bdrewN h n
theorem bl_then {w W W1 : World} (h : Below w.heap.size w W) (k : Below W.heap.size W W1) : Below w.heap.size w W1 := h.trans (k.mono h.size)
theorem bl_set {w W : World} (h : Below w.heap.size w W) {p : Addr} (hp : w.heap.size ≤ p.block) (u : Value) : Below w.heap.size w (W.setCell p u) := h.setCell hp u

/-- An integer of package exact: small, or a sign with digits. -/
def IntV (w : World) (v : Int) (A : Option Addr) (n c : Nat) (x : Int) : Prop :=
  (A = none ∧ n = 0 ∧ c = 0 ∧ v = x ∧ -4611686018427387904 < x ∧ x < 4611686018427387904) ∨
  (A ≠ none ∧ n ≤ c ∧ (v = 1 ∨ v = -1) ∧ ∃ ds, RdI w 118 .u32 A n ds ∧ Dig 4294967296 ds ∧ Trimmed ds ∧ 4611686018427387904 ≤ val 4294967296 ds ∧ x = v * val 4294967296 ds)
theorem IntV.kp {w w' : World} {v : Int} {A : Option Addr} {n c : Nat} {x : Int} (h : IntV w v A n c x) (e : Kp 118 w w') : IntV w' v A n c x := by
  rcases h with h | ⟨h1, h2, h3, ds, h4, h5⟩
  · exact .inl h
  · exact .inr ⟨h1, h2, h3, ds, h4.kp e, h5⟩
theorem IntV.below {w w' : World} {v : Int} {A : Option Addr} {n c : Nat} {x : Int} (h : IntV w v A n c x) (e : Below w.heap.size w w') : IntV w' v A n c x := h.kp (Kp.below e)
theorem IntV.small (w : World) {x : Int} (h0 : -4611686018427387904 < x) (h1 : x < 4611686018427387904) : IntV w x none 0 0 x := .inl ⟨rfl, rfl, rfl, rfl, h0, h1⟩

end Go.Proofs.Ytjmbpeniibdnoaa
