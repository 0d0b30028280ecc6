/- Reference 02: memory; small, ValidForm, ValidPoint, Rats, divisor. Reference 02: To, Rats, divisor. Reference 02: Rats, Eval. Reference 02: Value, divisor, Primed. Reference 02: Primed. Reference 02: From, Primitive. Reference 02: Primitive. Equal forms, equal lists: the comparisons answer true. awake: the examples of the chapter; few. -/
import Derived.Test.YtloplmmnmehkmaaGreatLinA
import Derived.Test.YtloplmmnmehkmaaGreatMemA
set_option linter.unusedVariables false
set_option linter.unusedSimpArgs false
namespace Go.Proofs.YtloplmmnmehkmaaGreat
open Go.RowKit

/-- The cells of an integer of the reference. -/
structure JC where
  s : Int
  g : Bool
  A : Option Addr
  n : Nat
  c : Nat
def JC.Is (w : World) (x : JC) (z : Int) : Prop := RV w x.s x.g x.A x.n x.c z
def KR : Kind JC Int := ⟨fun y => [.int .i64 y.s, .bool y.g, .slice y.A y.n y.c], 3, 49, JC.Is, ⟨0, false, none, 0, 0⟩, 0⟩
theorem KR.ok : KR.Ok := ⟨fun _ => rfl, by decide, fun y u hu => by simp [KR] at hu; rcases hu with rfl | rfl | rfl <;> rfl, fun W W' y r h k => RV.kp h (k _ (by decide)), fun W W' y r h k => RV.kp h (Kp.below k)⟩
theorem info_rint : (Tryz.prog.info? KR.E).map (fun i => (i.zero, i.size, i.bytes)) = some (some (.agg #[.int .i64 0, .bool false, .slice none 0 0]), KR.sz, 40) := by kernel_rfl
theorem Kind.Own.kps {α β : Type} {K : Kind α β} {W W' : World} {base n : Nat} {v : Value} {R : List β} (ho : K.Own W base v n R) (k : Kp K.E W W') (hI : ∀ y r, K.Is W y r → K.Is W' y r) : K.Own W' base v n R := by
  obtain ⟨l, h1, h2, h3, h4⟩ := ho
  refine ⟨l, ⟨h1.1, ?_⟩, h2, h3, fun j hj => hI _ _ (h4 j hj)⟩
  rcases h1.2 with h0 | ⟨g', cap', cur, hv, hb, hg, r⟩
  · exact .inl h0
  · exact .inr ⟨g', cap', cur, hv, hb, k.blk _ _ _ hg, r⟩
/-- A slice of integers of the reference that is read. -/
def RdR (w : World) (A : Option Addr) (n : Nat) (zs : List Int) : Prop :=
  zs.length = n ∧ n ≤ 1000000 ∧ (0 < n → ∃ g, A = some ⟨g, 0, none⟩ ∧ g < w.heap.size ∧ ∀ j, j < n → ∃ x : JC, (w.cell? ⟨g, j * 3, none⟩ = some (.int .i64 x.s) ∧ w.cell? ⟨g, j * 3 + 1, none⟩ = some (.bool x.g) ∧ w.cell? ⟨g, j * 3 + 2, none⟩ = some (.slice x.A x.n x.c)) ∧ x.Is w (zs.getD j 0))
theorem RdR.below {w w' : World} {A : Option Addr} {n : Nat} {zs : List Int} (h : RdR w A n zs) (hb : Below w.heap.size w w') : RdR w' A n zs := by
  refine ⟨h.1, h.2.1, fun hn => ?_⟩
  obtain ⟨g, e, hg, hc⟩ := h.2.2 hn
  refine ⟨g, e, Nat.lt_of_lt_of_le hg hb.size, fun j hj => ?_⟩
  obtain ⟨x, ⟨h1, h2, h3⟩, h4⟩ := hc j hj
  have k := (cells_below hb).1
  exact ⟨x, ⟨(k _ _ hg).trans h1, (k _ _ hg).trans h2, (k _ _ hg).trans h3⟩, RV.kp h4 (Kp.below hb)⟩
theorem KR.rdR {w : World} {base n : Nat} {v : Value} {X : List Int} (h : KR.Own w base v n X) (hn : n ≤ 1000000) : ∃ A c, v = .slice A n c ∧ RdR w A n X := by
  obtain ⟨A, c, rfl, h1, h2, _, h3⟩ := h.rd KR.ok
  refine ⟨A, c, rfl, h1, hn, fun hp => ?_⟩
  obtain ⟨g, cs, rfl, hg, hc⟩ := h3 hp
  refine ⟨g, rfl, blk_lt hg, fun j hj => ?_⟩
  obtain ⟨y, hy, hi⟩ := hc j hj
  exact ⟨y, ⟨hy 0 (by decide), hy 1 (by decide), hy 2 (by decide)⟩, hi⟩
/-- A row of the reference as a result. -/
def RowQ (e : Ending) (w : World) (n : Nat) (zs : List Int) (z : Int) : Prop := ∃ (A : Option Addr) (c : Nat) (x : JC), e = .returned (.agg #[.slice A n c, .int .i64 x.s, .bool x.g, .slice x.A x.n x.c]) ∧ RdR w A n zs ∧ x.Is w z
/-- The cells of a rational of the reference. -/
structure JQ where
  s : Int
  g : Bool
  A : Option Addr
  n : Nat
  c : Nat
  s' : Int
  g' : Bool
  A' : Option Addr
  n' : Nat
  c' : Nat
def JQ.Is (w : World) (x : JQ) (q : Rat) : Prop := RRV w x.s x.g x.A x.n x.c x.s' x.g' x.A' x.n' x.c' q
def KP6 : Kind JQ Rat := ⟨fun y => [.int .i64 y.s, .bool y.g, .slice y.A y.n y.c, .int .i64 y.s', .bool y.g', .slice y.A' y.n' y.c'], 6, 51, JQ.Is, ⟨0, false, none, 0, 0, 0, false, none, 0, 0⟩, 0⟩
theorem KP6.ok : KP6.Ok := ⟨fun _ => rfl, by decide, fun y u hu => by simp [KP6] at hu; rcases hu with rfl | rfl | rfl | rfl | rfl | rfl <;> rfl, fun W W' y r h k => RRV.kp h (k _ (by decide)), fun W W' y r h k => RRV.below h k⟩
theorem info_rrat : (Tryz.prog.info? KP6.E).map (fun i => (i.zero, i.size, i.bytes)) = some (some (.agg #[.int .i64 0, .bool false, .slice none 0 0, .int .i64 0, .bool false, .slice none 0 0]), KP6.sz, 80) := by kernel_rfl
def At6q (w : World) (g o : Nat) (x : JQ) : Prop := w.cell? ⟨g, o, none⟩ = some (.int .i64 x.s) ∧ w.cell? ⟨g, o + 1, none⟩ = some (.bool x.g) ∧ w.cell? ⟨g, o + 2, none⟩ = some (.slice x.A x.n x.c) ∧ w.cell? ⟨g, o + 3, none⟩ = some (.int .i64 x.s') ∧ w.cell? ⟨g, o + 4, none⟩ = some (.bool x.g') ∧ w.cell? ⟨g, o + 5, none⟩ = some (.slice x.A' x.n' x.c')
theorem At6q.below {w w' : World} {g o : Nat} {x : JQ} (h : At6q w g o x) (hg : g < w.heap.size) (hb : Below w.heap.size w w') : At6q w' g o x := by
  have k := (cells_below hb).1
  exact ⟨(k _ _ hg).trans h.1, (k _ _ hg).trans h.2.1, (k _ _ hg).trans h.2.2.1, (k _ _ hg).trans h.2.2.2.1, (k _ _ hg).trans h.2.2.2.2.1, (k _ _ hg).trans h.2.2.2.2.2⟩
/-- A slice of rationals of the reference that is read. -/
def RdRR (w : World) (A : Option Addr) (n : Nat) (X : List Rat) : Prop :=
  X.length = n ∧ n ≤ 1000000 ∧ (0 < n → ∃ g, A = some ⟨g, 0, none⟩ ∧ g < w.heap.size ∧ ∀ j, j < n → ∃ x : JQ, At6q w g (j * 6) x ∧ x.Is w (X.getD j 0))
theorem RdRR.below {w w' : World} {A : Option Addr} {n : Nat} {X : List Rat} (h : RdRR w A n X) (hb : Below w.heap.size w w') : RdRR w' A n X := by
  refine ⟨h.1, h.2.1, fun hn => ?_⟩
  obtain ⟨g, e, hg, hc⟩ := h.2.2 hn
  refine ⟨g, e, Nat.lt_of_lt_of_le hg hb.size, fun j hj => ?_⟩
  obtain ⟨x, h1, h4⟩ := hc j hj
  exact ⟨x, h1.below hg hb, RRV.below h4 hb⟩
theorem KP6.rd {w : World} {base n : Nat} {v : Value} {X : List Rat} (h : KP6.Own w base v n X) (hn : n ≤ 1000000) : ∃ A c, v = .slice A n c ∧ RdRR w A n X := by
  obtain ⟨A, c, rfl, h1, h2, _, h3⟩ := Kind.Own.rd KP6.ok h
  refine ⟨A, c, rfl, h1, hn, fun hp => ?_⟩
  obtain ⟨g, cs, rfl, hg, hc⟩ := h3 hp
  refine ⟨g, rfl, blk_lt hg, fun j hj => ?_⟩
  obtain ⟨y, hy, hi⟩ := hc j hj
  exact ⟨y, ⟨hy 0 (by decide), hy 1 (by decide), hy 2 (by decide), hy 3 (by decide), hy 4 (by decide), hy 5 (by decide)⟩, hi⟩
set_option maxHeartbeats 40000000
set_option maxRecDepth 100000
theorem r2small_calls (x : Int) (w : World) :
    Calls Tryz.prog 92 #[.int .i64 x] w fun e w' => e = .returned (.bool (decide (mid x))) ∧ Below w.heap.size w w' := by
  by_cases h1 : x ≤ 1152921504606846976
  · by_cases h2 : -1152921504606846976 ≤ x
    · rw [show decide (mid x) = true from decide_eq_true ⟨h2, h1⟩]
      go_enter Tryz.func92, Tryz.ntmps92
      go_wp2
      go_ret
      exact ⟨rfl, Below.refl _ _⟩
    · rw [show decide (mid x) = false from decide_eq_false fun h => h2 h.1]
      go_enter Tryz.func92, Tryz.ntmps92
      go_wp2
      go_ret
      exact ⟨rfl, Below.refl _ _⟩
  · rw [show decide (mid x) = false from decide_eq_false fun h => h1 h.2]
    go_enter Tryz.func92, Tryz.ntmps92
    go_wp2
    go_ret
    exact ⟨rfl, Below.refl _ _⟩
theorem r2vform_calls (n : Int) (A : Option Addr) (m c : Nat) (f : Fm) (w : World) (h : RdC w A m f.1) :
    Calls Tryz.prog 41 #[.int .i64 n, .agg #[.slice A m c, .int .i64 f.2]] w fun e w' => e = .returned (.bool (decide (OkF n f))) ∧ Below w.heap.size w w' := by
  have L := Lib.hid h.1
  have hm := h.2.1
  generalize hB : decide (OkF n f) = B
  have HB := Lib.hid hB
  clear hB
  have NO : ¬ OkF n f → B = false := fun h => by rw [← HB.out, decide_eq_false h]
  have YES : OkF n f → B = true := fun h => by rw [← HB.out, decide_eq_true h]
  have HNO := Lib.hid NO
  have HYES := Lib.hid YES
  obtain ⟨l, a⟩ := f
  dsimp only at *
  clear NO YES
  have a1 : (w.alloc (.cells #[.slice A m c, .int .i64 a] 44)).heap[w.heap.size]? = some (.cells #[.slice A m c, .int .i64 a] 44 (0, 0)) := blk_at _ rfl
  have B0 := bl_alloc (Below.refl w.heap.size w) (.cells #[.slice A m c, .int .i64 a] 44)
  by_cases hd : dimO n
  · have d1 : ¬ n < 0 := by have := hd.1; omega
    have d2 : ¬ 8 < n := by have := hd.2; omega
    have d3 : decide (n < 0) = false := decide_eq_false d1
    have d4 : decide (8 < n) = false := decide_eq_false d2
    by_cases hl : (m : Int) = n
    · have hl' : ((m : Int) != n) = false := by simp [hl]
      go_enter Tryz.func41, Tryz.ntmps41
      go_wp2_with fail
      refine (r2small_calls a _).mono ?_
      rintro e w1 ⟨he, hB1⟩
      replace a1 := blk_below a1 hB1
      replace B0 := bl_then B0 hB1
      clear hB1
      by_cases ha : mid a
      · rw [decide_eq_true ha] at he
        subst he
        obtain ⟨g1, g2, g3, g4⟩ := bx2 a1
        go_wp2_with fail
        clear g1 g2 g3 g4
        go_loopw [29] (fun i wr => ∃ k : Nat, k ≤ m ∧ i = .int .i64 k ∧ (∀ j, j < k → mid (l.getD j 0)) ∧ Below w.heap.size w wr) (fun i _ => m - (intOf i).toNat)
        case atStart => exact ⟨0, Nat.zero_le _, rfl, fun j hj => absurd hj (by omega), B0⟩
        case round =>
          clear B0 a1
          obtain ⟨k, hk, rfl, hall, hBw⟩ := hrel
          have HALL := Lib.hid hall
          clear hall
          by_cases hlt : k < m
          · obtain ⟨g, off, rfl, hg, hc⟩ := (h.below hBw).at_ (by omega)
            have c1 := hc k hlt
            clear hc h
            generalize hx1 : l.getD k 0 = x1 at *
            have HX1 := Lib.hid hx1
            clear hx1
            go_wp2_with fail
            refine (r2small_calls x1 _).mono ?_
            rintro e w1 ⟨he, hB1⟩
            replace hBw := bl_then hBw hB1
            clear hB1 c1
            by_cases hok : mid x1
            · rw [decide_eq_true hok] at he
              subst he
              replace hok := Lib.hid hok
              go_wp2
              go_roundw
              case rel =>
                refine ⟨k + 1, hlt, by go_num, ?_, hBw⟩
                intro j hj
                rcases Nat.lt_or_ge j k with h1 | h1
                · exact HALL.out j h1
                · have : j = k := by omega
                  subst this
                  rw [HX1.out]
                  exact hok.out
              case measure => simp [intOf]; omega
            · rw [decide_eq_false hok] at he
              subst he
              have hf : B = false := HNO.out fun hh => by
                have := hh.2.2.2 _ (mem_getD (d := 0) (by rw [L.out]; exact hlt) : l.getD k 0 ∈ l)
                rw [HX1.out] at this
                exact hok this
              subst hf
              go_wp2
              go_ret
              exact ⟨rfl, hBw⟩
          · have hf : B = true := HYES.out ⟨hd, by rw [show ((l, a) : Fm).1.length = m from L.out]; exact hl, ha, all_of_getD fun j hj => HALL.out j (by rw [L.out] at hj; omega)⟩
            subst hf
            go_wp2
            go_ret
            exact ⟨rfl, hBw⟩
      · rw [decide_eq_false ha] at he
        subst he
        have hf := HNO.out fun hh => ha hh.2.2.1
        subst hf
        go_wp2
        go_ret
        exact ⟨rfl, B0⟩
    · have hf := HNO.out fun hh => hl (by have := hh.2.1; dsimp only at this; rw [L.out] at this; exact this)
      subst hf
      have hl' : ((m : Int) != n) = true := by simp [hl]
      go_enter Tryz.func41, Tryz.ntmps41
      go_wp2
      go_ret
      exact ⟨rfl, B0⟩
  · have hf := HNO.out fun hh => hd hh.1
    subst hf
    by_cases d1 : n < 0
    · go_enter Tryz.func41, Tryz.ntmps41
      go_wp2
      go_ret
      exact ⟨rfl, B0⟩
    · have d2 : 8 < n := by unfold dimO at hd; omega
      go_enter Tryz.func41, Tryz.ntmps41
      go_wp2
      go_ret
      exact ⟨rfl, B0⟩
theorem r2vpoint_calls (n : Int) (A : Option Addr) (m c : Nat) (x : List (Int × Int)) (w : World) (h : RdN w A m x) (hi : I64s x) :
    Calls Tryz.prog 21 #[.int .i64 n, .slice A m c] w fun e w' => e = .returned (.bool (decide (OkX n x))) ∧ Below w.heap.size w w' := by
  have L := Lib.hid h.1
  generalize hB : decide (OkX n x) = B
  have HB := Lib.hid hB
  clear hB
  have NO : ¬ OkX n x → B = false := fun h => by rw [← HB.out, decide_eq_false h]
  by_cases d1 : 0 ≤ n
  · by_cases d2 : n ≤ 8
    · by_cases hl : (m : Int) = n
      · have hl' : ((m : Int) == n) = true := by simp [hl]
        have hl2 : decide ((m : Int) = n) = true := decide_eq_true hl
        go_enter Tryz.func21, Tryz.ntmps21
        go_wp2_with fail
        refine (rall_calls A m c x _ h hi).mono ?_
        rintro e w3 ⟨he, hB3⟩
        have : decide (OkNs x) = B := by
          rw [← HB.out]
          apply decide_eq_decide.2
          exact ⟨fun hm => ⟨⟨d1, d2⟩, by rw [L.out]; exact hl, hm⟩, fun hm => hm.2.2⟩
        rw [this] at he
        subst he
        go_wp2
        go_ret
        exact ⟨rfl, hB3⟩
      · have hf := NO fun hh => hl (by have := hh.2.1; rw [L.out] at this; exact this)
        subst hf
        have hl2 : decide ((m : Int) = n) = false := decide_eq_false hl
        go_enter Tryz.func21, Tryz.ntmps21
        go_wp2
        go_ret
        exact ⟨rfl, Below.refl _ _⟩
    · have hf := NO fun hh => d2 hh.1.2
      subst hf
      go_enter Tryz.func21, Tryz.ntmps21
      go_wp2
      go_ret
      exact ⟨rfl, Below.refl _ _⟩
  · have hf := NO fun hh => d1 hh.1.1
    subst hf
    go_enter Tryz.func21, Tryz.ntmps21
    go_wp2
    go_ret
    exact ⟨rfl, Below.refl _ _⟩
end Go.Proofs.YtloplmmnmehkmaaGreat

namespace Go.Proofs.YtloplmmnmehkmaaGreat
open Go.RowKit

theorem q4c {w : World} {g : Nat} {t : TypeId} {a b c d : Value} (h : w.heap[g]? = some (.cells #[a, b, c, d] t (0, 0))) : w.cell? ⟨g, 0, none⟩ = some a ∧ w.cell? ⟨g, 1, none⟩ = some b ∧ w.cell? ⟨g, 2, none⟩ = some c ∧ w.cell? ⟨g, 3, none⟩ = some d ∧ w.frozen? ⟨g, 0, none⟩ = false ∧ w.frozen? ⟨g, 1, none⟩ = false ∧ w.frozen? ⟨g, 2, none⟩ = false ∧ w.frozen? ⟨g, 3, none⟩ = false :=
  ⟨(blk_cell h 0).1, (blk_cell h 1).1, (blk_cell h 2).1, (blk_cell h 3).1, (blk_cell h 0).2, (blk_cell h 1).2, (blk_cell h 2).2, (blk_cell h 3).2⟩
set_option maxHeartbeats 40000000
set_option maxRecDepth 100000
theorem r2to_calls (A : Option Addr) (m c : Nat) (f : Fm) (w : World) (h : RdC w A m f.1) (hi : I64F f) (hm : m ≤ 500) :
    Calls Tryz.prog 31 #[.agg #[.slice A m c, .int .i64 f.2]] w fun e w' => RowQ e w' m f.1 f.2 ∧ Below w.heap.size w w' := by
  have LN := Lib.hid h.1
  have HI := Lib.hid hi
  have f20 := hi.2.1
  have f21 := hi.2.2
  clear hi
  go_enter Tryz.func31, Tryz.ntmps31
  have a1 := blk_alloc (blk_at (W := w) (.cells #[.slice A m c, .int .i64 f.2] 44) rfl) (.cells #[.slice none 0 0, .int .i64 0, .bool false, .slice none 0 0] 60)
  obtain ⟨g1, g2, g3, g4⟩ := bx2 a1
  go_wp2_with fail
  clear g1 g2 g3 g4
  refine (rof_calls f.2 _ f20 f21).mono ?_
  rintro e w1 ⟨⟨s1, b1, A1, n1, c1, rfl, t1⟩, hB1⟩
  obtain ⟨y, hye⟩ : ∃ y : JC, y = ⟨s1, b1, A1, n1, c1⟩ := ⟨_, rfl⟩
  have hy0 : RV w1 y.s y.g y.A y.n y.c f.2 := by rw [hye]; exact t1
  have e1 : s1 = y.s := by rw [hye]
  have e2 : b1 = y.g := by rw [hye]
  have e3 : A1 = y.A := by rw [hye]
  have e4 : n1 = y.n := by rw [hye]
  have e5 : c1 = y.c := by rw [hye]
  clear hye t1
  subst e1 e2 e3 e4 e5
  have a10 := blk_below a1 hB1
  have az0 : w1.heap[w.heap.size + 1]? = some (.cells #[.slice none 0 0, .int .i64 0, .bool false, .slice none 0 0] 60 (0, 0)) := blk_below (blk_at _ (by simp)) hB1
  have B00 : Below w.heap.size w w1 := bl_then (bl_alloc (bl_alloc (Below.refl _ _) _) _) hB1
  clear hB1 a1
  have a1 := blk_alloc a10 (.cells #[.slice none 0 0, .int .i64 y.s, .bool y.g, .slice y.A y.n y.c] 60)
  have az := blk_alloc az0 (.cells #[.slice none 0 0, .int .i64 y.s, .bool y.g, .slice y.A y.n y.c] 60)
  have ar : (w1.alloc (.cells #[.slice none 0 0, .int .i64 y.s, .bool y.g, .slice y.A y.n y.c] 60)).heap[w1.heap.size]? = some (.cells #[.slice none 0 0, .int .i64 y.s, .bool y.g, .slice y.A y.n y.c] 60 (0, 0)) := blk_at _ rfl
  have hy : RV (w1.alloc (.cells #[.slice none 0 0, .int .i64 y.s, .bool y.g, .slice y.A y.n y.c] 60)) y.s y.g y.A y.n y.c f.2 := RV.kp hy0 ((Kp.refl _ _).alloc _)
  have B0 := bl_alloc B00 (.cells #[.slice none 0 0, .int .i64 y.s, .bool y.g, .slice y.A y.n y.c] 60)
  have lz := blk_lt az0
  have O0 := Kind.Own.nil (K := KR) (w1.alloc (.cells #[.slice none 0 0, .int .i64 y.s, .bool y.g, .slice y.A y.n y.c] 60)) w.heap.size
  obtain ⟨g1, g2, _, _⟩ := bx2 a1
  clear a10 az0 B00 hy0
  go_wp2_with fail
  clear g1 g2 a1
  generalize w1.heap.size = g3 at *
  generalize w1.alloc (.cells #[.slice none 0 0, .int .i64 y.s, .bool y.g, .slice y.A y.n y.c] 60) = W1 at *
  go_loopw [13] (fun i wr => ∃ (kk : Nat) (v : Value), kk ≤ m ∧ i = .int .i64 kk ∧ KR.Own wr w.heap.size v kk (f.1.take kk) ∧ wr.heap[g3]? = some (.cells #[v, .int .i64 y.s, .bool y.g, .slice y.A y.n y.c] 60 (0, 0)) ∧ RV wr y.s y.g y.A y.n y.c f.2 ∧ wr.heap[w.heap.size + 1]? = some (.cells #[.slice none 0 0, .int .i64 0, .bool false, .slice none 0 0] 60 (0, 0)) ∧ Below w.heap.size w wr) (fun i _ => m - (intOf i).toNat)
  case atStart => exact ⟨0, _, Nat.zero_le _, rfl, O0, ar, hy, az, B0⟩
  case round =>
    clear O0 ar hy az B0
    obtain ⟨kk, v, hkk, rfl, OW, ar, hy, az, B0⟩ := hrel
    by_cases hlt : kk < m
    · obtain ⟨g, off, rfl, hg, hc⟩ := (h.below B0).at_ (by omega)
      have p1 := hc kk hlt
      have hz := HI.out.1 _ (mem_getD (d := 0) (by rw [LN.out]; exact hlt) : f.1.getD kk 0 ∈ f.1)
      have HE := Lib.hid (take_snoc f.1 0 kk (by rw [LN.out]; exact hlt))
      obtain ⟨Av, cv, rfl, _⟩ := KR.rdR OW (by omega)
      clear hc h
      generalize f.1.getD kk 0 = z1 at *
      obtain ⟨z10, z11⟩ := hz
      go_upto_region 5 with (fail)
      clear p1 hg
      have hS0 : wr.drew.cell? ⟨g3, 0, none⟩ = some (Value.slice Av kk cv) := (q4c (blk_drew ar)).1
      refine wp_region_T (n := 7) (fun W => W.cell? ⟨g3, 0, none⟩ = some (Value.slice Av kk cv)) (by kernel_rfl) ?_
      refine wpT_take (n := 7) (i := 0) (v := ?_) (by decide) (by kernel_rfl) rfl (by kernel_rfl) (by kernel_rfl) (by kernel_rfl) (fun _ _ _ h => h) (Or.inl ⟨by rfl, ?_⟩) hS0 ?_
      rotate_left
      · intro w' hSw
        (try dsimp only at hSw)
        go_simp
        (try with_reducible rfl)
      try simp only [Act.put, List.setIfInBounds_toArray, List.set_cons_zero, List.set_cons_succ]
      refine wpT_take (n := 7) (i := 1) (v := ?_) (by decide) (by kernel_rfl) rfl (by kernel_rfl) (by kernel_rfl) (by kernel_rfl) (fun _ _ _ h => h) (Or.inl ⟨by rfl, ?_⟩) hS0 ?_
      rotate_left
      · intro w' hSw
        (try dsimp only at hSw)
        go_simp
        (try with_reducible rfl)
      try simp only [Act.put, List.setIfInBounds_toArray, List.set_cons_zero, List.set_cons_succ]
      refine wpT_take (n := 7) (i := 2) (v := ?_) (by decide) (by kernel_rfl) rfl (by kernel_rfl) (by kernel_rfl) (by kernel_rfl) (fun _ _ _ h => h) (Or.inl ⟨by rfl, ?_⟩) hS0 ?_
      rotate_left
      · intro w' hSw
        (try dsimp only at hSw)
        go_simp
        (try with_reducible rfl)
      try simp only [Act.put, List.setIfInBounds_toArray, List.set_cons_zero, List.set_cons_succ]
      refine wpT_one (n := 7) (i := 3) (by kernel_rfl) rfl (fun K9 hK9 => ?_)
      go_simp
      refine (rof_calls z1 _ z10 z11).mono ?_
      rintro e y1 ⟨⟨s2, b2, A2, n2, c2, rfl, t2⟩, hB1⟩
      have H1 : Below wr.heap.size wr y1 := bl_then (bl_drew (Below.refl _ _)) hB1
      have hS1 : y1.cell? ⟨g3, 0, none⟩ = some (Value.slice Av kk cv) := (q4c (blk_below ar H1)).1
      refine hK9.out _ _ (fun _ => hS1) (fun _ => ?_)
      clear hK9 K9
      try simp only [Act.put, List.setIfInBounds_toArray, List.set_cons_zero, List.set_cons_succ]
      refine wpT_one (n := 7) (i := 4) (by kernel_rfl) rfl (fun K9 hK9 => ?_)
      go_simp
      have H2 : Below wr.heap.size wr (y1.alloc (.cells #[.int .i64 s2, .bool b2, .slice A2 n2 c2] 49)) := bl_alloc H1 _
      have hS2 : (y1.alloc (.cells #[.int .i64 s2, .bool b2, .slice A2 n2 c2] 49)).cell? ⟨g3, 0, none⟩ = some (Value.slice Av kk cv) := (q4c (blk_below ar H2)).1
      refine hK9.out _ _ (fun _ => hS2) (fun _ => ?_)
      clear hK9 K9
      try simp only [Act.put, List.setIfInBounds_toArray, List.set_cons_zero, List.set_cons_succ]
      have O1 := OW.below KR.ok H2
      have B1 := bl_then B0 H2
      have t3 : KR.Is (y1.alloc (.cells #[.int .i64 s2, .bool b2, .slice A2 n2 c2] 49)) ⟨s2, b2, A2, n2, c2⟩ z1 := RV.kp t2 ((Kp.refl _ _).alloc _)
      obtain ⟨v', W', hrun, O2, hgr⟩ := appg1 (c := 1) (g := y1.heap.size) KR.ok 58 _ 40 info_rint Tryz.underlying58 rfl (by omega) O1 ⟨s2, b2, A2, n2, c2⟩ z1 _ (blk_at _ rfl) rfl t3 (by omega) B1.size
      have V2 : Below w.heap.size w W' := below_of_grown B1 hgr B1.size O1.ge
      have HR := Lib.hid hrun
      have ar2 := (O1.kpg hgr 60 (by decide)).blk _ _ _ (blk_below ar H2)
      have az2 := (O1.kpg hgr 60 (by decide)).blk _ _ _ (blk_below az H2)
      have hy2 : RV W' y.s y.g y.A y.n y.c f.2 := (RV.kp (RV.kp hy (Kp.below H2)) (O1.kpg hgr 3 (by decide)))
      have hS3 : W'.cell? ⟨g3, 0, none⟩ = some (Value.slice Av kk cv) := (q4c ar2).1
      clear hrun
      refine wpT_one (n := 7) (i := 5) (by kernel_rfl) rfl (fun K9 hK9 => ?_)
      refine oper_ap rfl (.tmp 18) (.tmp 21) 58 (by rfl) _ _ (by rfl) (by rfl) _ (by rfl) _ _ HR.out ?_
      refine hK9.out _ _ (fun _ => hS3) (fun _ => ?_)
      clear hK9 K9
      try simp only [Act.put, List.setIfInBounds_toArray, List.set_cons_zero, List.set_cons_succ]
      refine wpT_take (n := 7) (i := 6) (v := ?_) (by decide) (by kernel_rfl) rfl (by kernel_rfl) (by kernel_rfl) (by kernel_rfl) (fun _ _ _ h => h) (Or.inl ⟨by rfl, ?_⟩) hS3 ?_
      rotate_left
      · intro w' hSw
        (try dsimp only at hSw)
        go_simp
        (try with_reducible rfl)
      try simp only [Act.put, List.setIfInBounds_toArray, List.set_cons_zero, List.set_cons_succ]
      obtain ⟨A9, c9, rfl, _⟩ := KR.rdR O2 (by omega)
      have FF := q4c ar2
      obtain ⟨k1, k2, k3, k4, k5, k6, k7, k8⟩ := FF
      refine wpT_one (n := 7) (i := 7) (by kernel_rfl) rfl (fun K9 hK9 => ?_)
      go_simp
      refine hK9.out _ _ (fun h => absurd rfl h) (fun _ => ?_)
      clear hK9 K9
      try simp only [Act.put, List.setIfInBounds_toArray, List.set_cons_zero, List.set_cons_succ]
      refine wpT_done (by kernel_rfl) ?_ _
      have kpr : ∀ t, 60 ≠ t → Kp t W' (W'.setCell ⟨g3, 0, none⟩ (.slice A9 (kk + 1) c9)) := fun t ht => (Kp.refl _ _).set (p := ⟨g3, 0, none⟩) ar2 ht _
      have U1 : (W'.setCell ⟨g3, 0, none⟩ (.slice A9 (kk + 1) c9)).heap[g3]? = some (.cells #[.slice A9 (kk + 1) c9, .int .i64 y.s, .bool y.g, .slice y.A y.n y.c] 60 (0, 0)) := blk_set ar2 0 _
      have U2 := O2.kps (kpr 49 (by decide)) (fun y r h => RV.kp h (kpr 3 (by decide)))
      have U3 := hy2.kp (kpr 3 (by decide))
      have U4 := blk_far (i := 0) (v := .slice A9 (kk + 1) c9) az2 (show w.heap.size + 1 ≠ g3 by omega)
      have U5 := bl_set V2 (p := ⟨g3, 0, none⟩) (show w.heap.size ≤ g3 by omega) (.slice A9 (kk + 1) c9)
      rw [← HE.out] at U2
      go_wp2
      go_roundw
      case rel => exact ⟨kk + 1, _, hlt, by go_num, U2, U1, U3, U4, U5⟩
      case measure => simp [intOf]; omega
    · have hkn : m = kk := by omega
      subst hkn
      obtain ⟨Av, cv, rfl, _⟩ := KR.rdR OW (by omega)
      have FF := q4c ar
      obtain ⟨k1, k2, k3, k4, k5, k6, k7, k8⟩ := FF
      have FZ := q4c az
      obtain ⟨m1, m2, m3, m4, m5, m6, m7, m8⟩ := FZ
      have U1 := blk_set4 az (.slice Av m cv) (.int .i64 y.s) (.bool y.g) (.slice y.A y.n y.c)
      have kpr : ∀ t, 60 ≠ t → Kp t wr _ := fun t ht => ((((Kp.refl _ _).set (p := ⟨w.heap.size + 1, 0, none⟩) az ht (.slice Av m cv)).set (p := ⟨w.heap.size + 1, 1, none⟩) (blk_set az 0 _) ht (.int .i64 y.s)).set (p := ⟨w.heap.size + 1, 2, none⟩) (blk_set (blk_set az 0 _) 1 _) ht (.bool y.g)).set (p := ⟨w.heap.size + 1, 3, none⟩) (blk_set (blk_set (blk_set az 0 _) 1 _) 2 _) ht (.slice y.A y.n y.c)
      have U2 := OW.kps (kpr 49 (by decide)) (fun y r h => RV.kp h (kpr 3 (by decide)))
      have U3 := hy.kp (kpr 3 (by decide))
      have U4 := q4_bl (i1 := 0) (i2 := 1) (i3 := 2) (i4 := 3) B0 (show w.heap.size ≤ w.heap.size + 1 by omega) (.slice Av m cv) (.int .i64 y.s) (.bool y.g) (.slice y.A y.n y.c)
      rw [List.take_of_length_le (by rw [LN.out]; exact Nat.le_refl _)] at U2
      obtain ⟨A8, c8, e8, U5⟩ := KR.rdR U2 (by omega)
      cases e8
      clear kpr
      go_wp2
      refine bodyPost_ret (results_cell_row rfl _ _ (w.heap.size + 1) 60 #[.slice Av m cv, .int .i64 y.s, .bool y.g, .slice y.A y.n y.c] (0, 0) _ rfl U1 Tryz.underlying60 rfl (by kernel_rfl)) rfl ?_
      exact ⟨⟨Av, cv, y, rfl, U5, U3⟩, U4⟩
end Go.Proofs.YtloplmmnmehkmaaGreat

namespace Go.Proofs.YtloplmmnmehkmaaGreat
open Go.RowKit

theorem qxr4 {w : World} {g : Nat} {t : TypeId} {a b c d : Value} (h : w.heap[g]? = some (.cells #[a, b, c, d] t (0, 0))) : w.cell? ⟨g, 0, none⟩ = some a ∧ w.cell? ⟨g, 1, none⟩ = some b ∧ w.cell? ⟨g, 2, none⟩ = some c ∧ w.cell? ⟨g, 3, none⟩ = some d := ⟨(blk_cell h 0).1, (blk_cell h 1).1, (blk_cell h 2).1, (blk_cell h 3).1⟩
theorem qj3 {A B C X : Prop} (h : A ∧ B ∧ C) (x : X) : A ∧ B ∧ C ∧ X := ⟨h.1, h.2.1, h.2.2, x⟩
theorem at6c {w : World} {g o : Nat} {x : JQ} (h : At6q w g o x) : w.cell? ⟨g, o, none⟩ = some (.int .i64 x.s) ∧ w.cell? ⟨g, o + 1, none⟩ = some (.bool x.g) ∧ w.cell? ⟨g, o + 2, none⟩ = some (.slice x.A x.n x.c) ∧ w.cell? ⟨g, o + 3, none⟩ = some (.int .i64 x.s') ∧ w.cell? ⟨g, o + 4, none⟩ = some (.bool x.g') ∧ w.cell? ⟨g, o + 5, none⟩ = some (.slice x.A' x.n' x.c') := h
theorem rrv_int {w : World} {s : Int} {b : Bool} {A : Option Addr} {n c : Nat} {s' : Int} {b' : Bool} {A' : Option Addr} {n' c' : Nat} {z : Int} (h : RV w s b A n c z) (h1 : RV w s' b' A' n' c' 1) : RRV w s b A n c s' b' A' n' c' (z : Rat) :=
  ⟨by rw [Rat.num_intCast]; exact h, by rw [Rat.den_intCast]; exact h1⟩
theorem far6 {W : World} {g k : Nat} {o : Obj} (h : W.heap[k]? = some o) (hk : k ≠ g) (x1 x2 x3 x4 x5 x6 : Value) : ((((((W.setCell ⟨g, 0, none⟩ x1).setCell ⟨g, 1, none⟩ x2).setCell ⟨g, 2, none⟩ x3).setCell ⟨g, 3, none⟩ x4).setCell ⟨g, 4, none⟩ x5).setCell ⟨g, 5, none⟩ x6).heap[k]? = some o :=
  q6_far h hk x1 x2 x3 x4 x5 x6
theorem RRV.al2 {w : World} {s : Int} {b : Bool} {A : Option Addr} {n c : Nat} {s' : Int} {b' : Bool} {A' : Option Addr} {n' c' : Nat} {q : Rat} (h : RRV w s b A n c s' b' A' n' c' q) (o : Obj) : RRV (w.alloc o) s b A n c s' b' A' n' c' q := h.kp ((Kp.refl _ _).alloc o)
/-- A row of integers as a row of rationals. -/
def rwZ (zs : List Int) (z : Int) : Rw := (zs.map fun x => ((x : Int) : Rat), (z : Rat))
set_option maxHeartbeats 40000000
set_option maxRecDepth 100000
theorem r2rats_calls (A : Option Addr) (m c : Nat) (X : List (Int × Int)) (w : World) (h : RdN w A m X) (hi : I64s X) (hz : ∀ x ∈ X, OkN x.1 x.2) (hm : m ≤ 500) :
    Calls Tryz.prog 32 #[.slice A m c] w fun e w' => (∃ A' c', e = .returned (.slice A' m c') ∧ RdRR w' A' m (X.map ratP)) ∧ Below w.heap.size w w' := by
  have L := Lib.hid h.1
  have HI := Lib.hid hi
  have HZ := Lib.hid hz
  clear hi hz
  go_enter Tryz.func32, Tryz.ntmps32
  have O0 := Kind.Own.nil (K := KP6) w w.heap.size
  have B0 := Below.refl w.heap.size w
  go_wp2_with fail
  go_loopw [3, 8] (fun v i wr => ∃ kk : Nat, kk ≤ m ∧ i = .int .i64 kk ∧ KP6.Own wr w.heap.size v kk ((X.take kk).map ratP) ∧ Below w.heap.size w wr) (fun _ i _ => m - (intOf i).toNat)
  case atStart => exact ⟨0, Nat.zero_le _, rfl, O0, B0⟩
  case round =>
    clear O0 B0
    obtain ⟨kk, hkk, rfl, OW, B0⟩ := hrel
    by_cases hlt : kk < m
    · obtain ⟨g, off, rfl, hg, hc⟩ := (h.below B0).2.2 (by omega)
      obtain ⟨p1, p2⟩ := hc kk hlt
      have E := Lib.hid (map_take_succ ratP X (0, 0) kk (by rw [L.out]; exact hlt))
      have hmem : X.getD kk (0, 0) ∈ X := mem_getD (by rw [L.out]; exact hlt)
      have hok := HZ.out _ hmem
      have h64 := HI.out _ hmem
      clear hc h hmem
      generalize X.getD kk (0, 0) = x1 at *
      replace OW := OW.below KP6.ok (bl_alloc (Below.refl _ _) (.cells #[.int .i64 x1.1, .int .i64 x1.2] 56))
      replace B0 := bl_alloc B0 (.cells #[.int .i64 x1.1, .int .i64 x1.2] 56)
      go_wp2_with fail
      refine (rto_calls x1.1 x1.2 _ hok).mono ?_
      rintro e w1 ⟨⟨s2, b2, A2, n2, c2, s2', b2', A2', n2', c2', rfl, t2⟩, hB1⟩
      replace OW := OW.below KP6.ok hB1
      replace B0 := bl_then B0 hB1
      clear hB1 p1 p2 hg hok h64
      replace OW := OW.below KP6.ok (bl_alloc (Below.refl _ _) (.cells #[.int .i64 s2, .bool b2, .slice A2 n2 c2, .int .i64 s2', .bool b2', .slice A2' n2' c2'] 51))
      have B1 := bl_alloc B0 (.cells #[.int .i64 s2, .bool b2, .slice A2 n2 c2, .int .i64 s2', .bool b2', .slice A2' n2' c2'] 51)
      have t3 : KP6.Is (w1.alloc (.cells #[.int .i64 s2, .bool b2, .slice A2 n2 c2, .int .i64 s2', .bool b2', .slice A2' n2' c2'] 51)) ⟨s2, b2, A2, n2, c2, s2', b2', A2', n2', c2'⟩ (ratP x1) := RRV.kp t2 ((Kp.refl _ _).alloc _)
      obtain ⟨v', W', hrun, O2, hgr⟩ := appg1 (c := 1) (g := w1.heap.size) KP6.ok 62 _ 80 info_rrat Tryz.underlying62 rfl (by omega) OW ⟨s2, b2, A2, n2, c2, s2', b2', A2', n2', c2'⟩ (ratP x1) _ (blk_at _ rfl) rfl t3 (by omega) B1.size
      rw [← E.out] at O2
      have HR := Lib.hid hrun
      have HO := Lib.hid O2
      have hOB := OW.ge
      have V2 : Hid (Below w.heap.size w W') := Lib.hid (below_of_grown B1 hgr B1.size hOB)
      clear hrun O2 hgr hOB OW B1 t2 t3
      go_wp2_with (at_builtin; refine wpList_ap rfl (.tmp 12) (.tmp 15) 62 (by rfl) _ _ (by rfl) (by rfl) _ (by rfl) _ _ HR.out ?_)
      go_roundw
      case rel => exact ⟨kk + 1, hlt, by go_num, HO.out, V2.out⟩
      case measure => simp [intOf]; omega
    · have hkn : m = kk := by omega
      subst hkn
      obtain ⟨A', c', rfl, hrd⟩ := KP6.rd OW (by omega)
      rw [List.take_of_length_le (by rw [L.out]; exact Nat.le_refl _)] at hrd
      have HRD := Lib.hid hrd
      clear OW hrd
      go_wp2
      go_ret
      exact ⟨⟨A', c', rfl, HRD.out⟩, B0⟩

theorem r2eval_calls (A : Option Addr) (n c : Nat) (x : JC) (zs : List Int) (z0 : Int) (A' : Option Addr) (c' : Nat) (X : List Rat) (w : World) (h : RdR w A n zs) (hx : x.Is w z0) (h' : RdRR w A' n X) (hn : n ≤ 8) (sr : SzW 100 (rwZ zs z0)) (sx : ∀ j, SzR 100 (X.getD j 0)) :
    Calls Tryz.prog 30 #[.agg #[.slice A n c, .int .i64 x.s, .bool x.g, .slice x.A x.n x.c], .slice A' n c'] w fun e w' => RRatR e w' (valK (rwZ zs z0) X n) ∧ Below w.heap.size w w' := by
  have LN := Lib.hid h.1
  obtain ⟨KK, hKK⟩ : ∃ KK, KK = 10000 := ⟨_, rfl⟩
  have HV0 : Hid (∀ k, k ≤ n → SzR KK (valK (rwZ zs z0) X k)) := Lib.hid fun k hk => (valK_sz sr sx k).mono (by have := Nat.mul_le_mul_left (2 * 100 + 4) (show k ≤ 8 by omega); omega)
  have HM0 : Hid (∀ k, SzR KK ((rwZ zs z0).1.getD k 0 * X.getD k 0)) := Lib.hid fun k => (qsz_mul (sr.1 k) (sx k)).mono (by omega)
  have HC0 : Hid (∀ k, SzR KK ((rwZ zs z0).1.getD k 0)) := Lib.hid fun k => (sr.1 k).mono (by omega)
  have HX0 : Hid (∀ k, SzR KK (X.getD k 0)) := Lib.hid fun k => (sx k).mono (by omega)
  have HZ : Hid (∀ k, k < n → (rwZ zs z0).1.getD k 0 = ((zs.getD k 0 : Int) : Rat)) := Lib.hid fun k hk => getD_map (fun x : Int => (x : Rat)) zs k 0 0 (by rw [LN.out]; exact hk)
  have HK0 : Hid (valK (rwZ zs z0) X 0 = (z0 : Rat)) := Lib.hid rfl
  have HKS : Hid (∀ k, valK (rwZ zs z0) X (k + 1) = valK (rwZ zs z0) X k + (rwZ zs z0).1.getD k 0 * X.getD k 0) := Lib.hid fun k => rfl
  clear sr sx
  generalize rwZ zs z0 = rr at *
  go_enter Tryz.func30, Tryz.ntmps30
  go_upto_region 1 with (fail)
  have B0 := bl_alloc (bl_alloc (Below.refl w.heap.size w) (.cells #[.slice A n c, .int .i64 x.s, .bool x.g, .slice x.A x.n x.c] 60)) (.cells #[.int .i64 0, .bool false, .slice none 0 0, .int .i64 0, .bool false, .slice none 0 0] 51)
  have a1 : ((w.alloc (.cells #[.slice A n c, .int .i64 x.s, .bool x.g, .slice x.A x.n x.c] 60)).alloc (.cells #[.int .i64 0, .bool false, .slice none 0 0, .int .i64 0, .bool false, .slice none 0 0] 51)).heap[w.heap.size]? = some (.cells #[.slice A n c, .int .i64 x.s, .bool x.g, .slice x.A x.n x.c] 60 (0, 0)) := blk_alloc (blk_at _ rfl) _
  have ar : ((w.alloc (.cells #[.slice A n c, .int .i64 x.s, .bool x.g, .slice x.A x.n x.c] 60)).alloc (.cells #[.int .i64 0, .bool false, .slice none 0 0, .int .i64 0, .bool false, .slice none 0 0] 51)).heap[w.heap.size + 1]? = some (.cells #[.int .i64 0, .bool false, .slice none 0 0, .int .i64 0, .bool false, .slice none 0 0] 51 (0, 0)) := blk_at _ (by simp)
  have hx1 : RV ((w.alloc (.cells #[.slice A n c, .int .i64 x.s, .bool x.g, .slice x.A x.n x.c] 60)).alloc (.cells #[.int .i64 0, .bool false, .slice none 0 0, .int .i64 0, .bool false, .slice none 0 0] 51)) x.s x.g x.A x.n x.c z0 := RV.kp hx (Kp.below B0)
  generalize (w.alloc (.cells #[.slice A n c, .int .i64 x.s, .bool x.g, .slice x.A x.n x.c] 60)).alloc (.cells #[.int .i64 0, .bool false, .slice none 0 0, .int .i64 0, .bool false, .slice none 0 0] 51) = W1 at *
  have l1 := blk_lt ar
  go_cut [5] (fun p wc => ∃ (go : Nat) (o : JQ), p = .pointer (some ⟨go, 0, none⟩) ∧ wc.heap[go]? = some (.cells #[.int .i64 o.s, .bool o.g, .slice o.A o.n o.c, .int .i64 o.s', .bool o.g', .slice o.A' o.n' o.c'] 51 (0, 0)) ∧ RRV wc o.s o.g o.A o.n o.c o.s' o.g' o.A' o.n' o.c' (z0 : Rat) ∧ Below W1.heap.size W1 wc ∧ W1.heap.size ≤ go)
  case first =>
    have a1_0 := a1
    have HB_0 := Below.refl W1.heap.size W1
    go_region_held3 (fun W => W.cell? ⟨w.heap.size, 0, none⟩ = some (Value.slice A n c) ∧ W.cell? ⟨w.heap.size, 1, none⟩ = some (Value.int .i64 x.s) ∧ W.cell? ⟨w.heap.size, 2, none⟩ = some (Value.bool x.g) ∧ W.cell? ⟨w.heap.size, 3, none⟩ = some (Value.slice x.A x.n x.c)) (first | (refine qxr4 (t := 60) ?_ <;> (repeat (first | with_reducible exact a1_1 | with_reducible exact a1_0 | with_reducible refine blk_alloc ?_ _ | with_reducible refine blk_drew ?_ | with_reducible refine blk_far ?_ ?_ | omega)); done) | go_keep) (first | (go_at_call 76; refine (rof_calls 1 _ (by omega) (by omega)).mono ?_; rintro e ww ⟨⟨s1, b1, A1, n1, c1, rfl, t1⟩, hB5⟩; have a1_1 : ww.heap[w.heap.size]? = some (.cells #[.slice A n c, .int .i64 x.s, .bool x.g, .slice x.A x.n x.c] 60 (0, 0)) := (by repeat (first | with_reducible exact a1_0 | with_reducible refine blk_below ?_ hB5 | with_reducible refine blk_alloc ?_ _ | with_reducible refine blk_drew ?_)); have HB_1 : Below W1.heap.size W1 ww := (by repeat (first | with_reducible exact HB_0 | with_reducible refine bl_then ?_ hB5 | with_reducible refine bl_alloc ?_ _ | with_reducible refine bl_drew ?_)); have lw9 := HB_1.size; (first | (have EA : ww.heap[W1.heap.size]? = some (.cells #[.int .i64 0, .bool false, .slice none 0 0, .int .i64 0, .bool false, .slice none 0 0] 51 (0, 0)) := blk_below (blk_drew (blk_at _ rfl)) hB5; have EX := bx6 EA; obtain ⟨⟨e1, e2, e3, e4, e5, e6⟩, e7⟩ := EX) | skip)) | fail)
    all_goals
      have hx2 := RV.below hx1 HB_1
      have hq2 := rrv_int hx2 t1
      go_wp2
      go_meet
      case rel =>
        refine ⟨_, ⟨x.s, x.g, x.A, x.n, x.c, s1, b1, A1, n1, c1⟩, rfl, ?_, ?_, ?_, ?_⟩
        · first
            | with_reducible exact blk_at _ rfl
            | with_reducible exact blk_set6 EA _ _ _ _ _ _
        · first
            | with_reducible exact RRV.al2 hq2 _
            | exact hq2.kp (kp_set6 EA _ _ _ _ _ _)
        · first
            | with_reducible exact bl_alloc HB_1 _
            | exact bl_set6 HB_1 (Nat.le_refl _) _ _ _ _ _ _
        · first | omega | simp
  case rest =>
    obtain ⟨go, o, rfl, ao, ho, HB7, lgo⟩ := hcut
    replace a1 := blk_below a1 HB7
    replace ar := blk_below ar HB7
    replace B0 := bl_then B0 HB7
    clear HB7 hx1
    have f1 := (qxr4 a1).1
    go_wp2_with fail
    clear f1 a1
    rw [← HK0.out] at ho
    go_loopw [15] (fun i wr => ∃ (kk : Nat) (o : JQ), kk ≤ n ∧ i = .int .i64 kk ∧ wr.heap[go]? = some (.cells #[.int .i64 o.s, .bool o.g, .slice o.A o.n o.c, .int .i64 o.s', .bool o.g', .slice o.A' o.n' o.c'] 51 (0, 0)) ∧ RRV wr o.s o.g o.A o.n o.c o.s' o.g' o.A' o.n' o.c' (valK rr X kk) ∧ wr.heap[w.heap.size + 1]? = some (.cells #[.int .i64 0, .bool false, .slice none 0 0, .int .i64 0, .bool false, .slice none 0 0] 51 (0, 0)) ∧ Below w.heap.size w wr) (fun i _ => n - (intOf i).toNat)
    case atStart => exact ⟨0, o, Nat.zero_le _, rfl, ao, ho, ar, B0⟩
    case round =>
      clear ao ho ar B0
      clear o
      obtain ⟨kk, o, hkk, rfl, ao, ho, ar, B0⟩ := hrel
      by_cases hlt : kk < n
      · obtain ⟨g, rfl, hg, hc⟩ := (h.below B0).2.2 (by omega)
        obtain ⟨z, ⟨p1, p2, p3⟩, hz0⟩ := hc kk hlt
        obtain ⟨gx, rfl, lgx, hcx⟩ := (h'.below B0).2.2 (by omega)
        obtain ⟨y, ay, hy0⟩ := hcx kk hlt
        have hz : RV wr z.s z.g z.A z.n z.c (zs.getD kk 0) := hz0
        have hy : RRV wr y.s y.g y.A y.n y.c y.s' y.g' y.A' y.n' y.c' (X.getD kk 0) := hy0
        have HV := Lib.hid (HKS.out kk)
        have HOQ := Lib.hid (HV0.out kk hkk)
        have HMQ := Lib.hid (HM0.out kk)
        have HC := Lib.hid (HC0.out kk)
        have HXQ := Lib.hid (HX0.out kk)
        rw [HZ.out kk hlt] at HV HMQ HC
        clear hc hcx hz0 hy0 h h'
        generalize zs.getD kk 0 = cz at *
        generalize X.getD kk 0 = xq at *
        generalize valK rr X kk = oq at *
        have hk0 : (0 : Int) ≤ (kk : Int) := by omega
        have hkn : (kk : Int) < (n : Int) := by omega
        go_upto_region 5 with (fail)
        have az : (wr.alloc (.cells #[.int .i64 z.s, .bool z.g, .slice z.A z.n z.c] 49)).heap[wr.heap.size]? = some (.cells #[.int .i64 z.s, .bool z.g, .slice z.A z.n z.c] 49 (0, 0)) := blk_at _ rfl
        replace ao := blk_alloc ao (.cells #[.int .i64 z.s, .bool z.g, .slice z.A z.n z.c] 49)
        replace ar := blk_alloc ar (.cells #[.int .i64 z.s, .bool z.g, .slice z.A z.n z.c] 49)
        replace ho := RRV.kp ho ((Kp.refl _ _).alloc (.cells #[.int .i64 z.s, .bool z.g, .slice z.A z.n z.c] 49))
        replace hz := RV.kp hz ((Kp.refl _ _).alloc (.cells #[.int .i64 z.s, .bool z.g, .slice z.A z.n z.c] 49))
        replace hy := RRV.kp hy ((Kp.refl _ _).alloc (.cells #[.int .i64 z.s, .bool z.g, .slice z.A z.n z.c] 49))
        replace ay := At6q.below ay lgx (bl_alloc (Below.refl _ _) (.cells #[.int .i64 z.s, .bool z.g, .slice z.A z.n z.c] 49))
        replace lgx : gx < (wr.alloc (.cells #[.int .i64 z.s, .bool z.g, .slice z.A z.n z.c] 49)).heap.size := by simp; omega
        replace B0 := bl_alloc B0 (.cells #[.int .i64 z.s, .bool z.g, .slice z.A z.n z.c] 49)
        clear p1 p2 p3 hg
        have lo := blk_lt ao
        generalize wr.heap.size = g7 at *
        generalize wr.alloc (.cells #[.int .i64 z.s, .bool z.g, .slice z.A z.n z.c] 49) = W4 at *
        obtain ⟨⟨f1, f2, f3⟩, f5⟩ := bx3 az
        go_wp2_with fail
        refine (rsign_int_calls z.s z.g z.A z.n z.c cz _ hz).mono ?_
        rintro e w5 ⟨rfl, hB5⟩
        replace az := blk_below az hB5
        replace ao := blk_below ao hB5
        replace ar := blk_below ar hB5
        replace ay := At6q.below ay lgx hB5
        replace lgx : gx < w5.heap.size := Nat.lt_of_lt_of_le lgx hB5.size
        replace ho := RRV.below ho hB5
        replace hz := RV.below hz hB5
        replace hy := RRV.below hy hB5
        replace B0 := bl_then B0 hB5
        clear f1 f2 f3 f5 hB5
        by_cases hc0 : cz = 0
        · have hs : cz.sign = 0 := by rw [hc0]; rfl
          rw [hs]
          have E := Lib.hid (show oq + (cz : Rat) * xq = oq by rw [hc0]; simp; grind)
          rw [E.out] at HV
          clear hs hc0
          go_wp2
          go_roundw
          case rel => exact ⟨kk + 1, o, hlt, by go_num, ao, by rw [HV.out]; exact ho, ar, B0⟩
          case measure => simp [intOf]; omega
        · have hs : (cz.sign != 0) = true := by
            have : ¬ cz.sign = 0 := fun h => hc0 (Int.sign_eq_zero_iff_zero.1 h)
            simpa using this
          generalize cz.sign = sg at *
          clear hc0
          go_upto_region 6 with (fail)
          have ao_0 := blk_drew ao
          have az_0 := blk_drew az
          have ay_0 : At6q w5.drew gx (kk * 6) y := ay
          have hS0 : w5.drew.cell? ⟨go, 0, none⟩ = some (Value.int .i64 o.s) ∧ w5.drew.cell? ⟨go, 1, none⟩ = some (Value.bool o.g) ∧ w5.drew.cell? ⟨go, 2, none⟩ = some (Value.slice o.A o.n o.c) ∧ w5.drew.cell? ⟨go, 3, none⟩ = some (Value.int .i64 o.s') ∧ w5.drew.cell? ⟨go, 4, none⟩ = some (Value.bool o.g') ∧ w5.drew.cell? ⟨go, 5, none⟩ = some (Value.slice o.A' o.n' o.c') ∧ w5.drew.cell? ⟨g7, 0, none⟩ = some (Value.int .i64 z.s) ∧ w5.drew.cell? ⟨g7, 1, none⟩ = some (Value.bool z.g) ∧ w5.drew.cell? ⟨g7, 2, none⟩ = some (Value.slice z.A z.n z.c) ∧ w5.drew.cell? ⟨gx, kk * 6, none⟩ = some (Value.int .i64 y.s) ∧ w5.drew.cell? ⟨gx, kk * 6 + 1, none⟩ = some (Value.bool y.g) ∧ w5.drew.cell? ⟨gx, kk * 6 + 2, none⟩ = some (Value.slice y.A y.n y.c) ∧ w5.drew.cell? ⟨gx, kk * 6 + 3, none⟩ = some (Value.int .i64 y.s') ∧ w5.drew.cell? ⟨gx, kk * 6 + 4, none⟩ = some (Value.bool y.g') ∧ w5.drew.cell? ⟨gx, kk * 6 + 5, none⟩ = some (Value.slice y.A' y.n' y.c') := qj6 (bx6 ao_0).1 (qj3 (bx3 az_0).1 (at6c ay_0))
          refine wp_region_T (n := 10) (fun W => W.cell? ⟨go, 0, none⟩ = some (Value.int .i64 o.s) ∧ W.cell? ⟨go, 1, none⟩ = some (Value.bool o.g) ∧ W.cell? ⟨go, 2, none⟩ = some (Value.slice o.A o.n o.c) ∧ W.cell? ⟨go, 3, none⟩ = some (Value.int .i64 o.s') ∧ W.cell? ⟨go, 4, none⟩ = some (Value.bool o.g') ∧ W.cell? ⟨go, 5, none⟩ = some (Value.slice o.A' o.n' o.c') ∧ W.cell? ⟨g7, 0, none⟩ = some (Value.int .i64 z.s) ∧ W.cell? ⟨g7, 1, none⟩ = some (Value.bool z.g) ∧ W.cell? ⟨g7, 2, none⟩ = some (Value.slice z.A z.n z.c) ∧ W.cell? ⟨gx, kk * 6, none⟩ = some (Value.int .i64 y.s) ∧ W.cell? ⟨gx, kk * 6 + 1, none⟩ = some (Value.bool y.g) ∧ W.cell? ⟨gx, kk * 6 + 2, none⟩ = some (Value.slice y.A y.n y.c) ∧ W.cell? ⟨gx, kk * 6 + 3, none⟩ = some (Value.int .i64 y.s') ∧ W.cell? ⟨gx, kk * 6 + 4, none⟩ = some (Value.bool y.g') ∧ W.cell? ⟨gx, kk * 6 + 5, none⟩ = some (Value.slice y.A' y.n' y.c')) (by kernel_rfl) ?_
          refine wpT_take (n := 10) (i := 0) (v := ?_) (by decide) (by kernel_rfl) rfl (by kernel_rfl) (by kernel_rfl) (by kernel_rfl) (fun _ _ _ h => h) (Or.inl ⟨by rfl, ?_⟩) hS0 ?_
          rotate_left
          · intro w' hSw
            (try dsimp only at hSw)
            go_simp
            (try with_reducible rfl)
          try simp only [Act.put, List.setIfInBounds_toArray, List.set_cons_zero, List.set_cons_succ]
          refine wpT_take (n := 10) (i := 1) (v := ?_) (by decide) (by kernel_rfl) rfl (by kernel_rfl) (by kernel_rfl) (by kernel_rfl) (fun _ _ _ h => h) (Or.inl ⟨by rfl, ?_⟩) hS0 ?_
          rotate_left
          · intro w' hSw
            (try dsimp only at hSw)
            go_simp
            (try with_reducible rfl)
          try simp only [Act.put, List.setIfInBounds_toArray, List.set_cons_zero, List.set_cons_succ]
          refine wpT_take (n := 10) (i := 4) (v := ?_) (by decide) (by kernel_rfl) rfl (by kernel_rfl) (by kernel_rfl) (by kernel_rfl) (fun _ _ _ h => h) (Or.inl ⟨by rfl, ?_⟩) hS0 ?_
          rotate_left
          · intro w' hSw
            (try dsimp only at hSw)
            go_simp
            (try with_reducible rfl)
          try simp only [Act.put, List.setIfInBounds_toArray, List.set_cons_zero, List.set_cons_succ]
          refine wpT_take (n := 10) (i := 5) (v := ?_) (by decide) (by kernel_rfl) rfl (by kernel_rfl) (by kernel_rfl) (by kernel_rfl) (fun _ _ _ h => h) (Or.inl ⟨by rfl, ?_⟩) hS0 ?_
          rotate_left
          · intro w' hSw
            (try dsimp only at hSw)
            go_simp
            (try with_reducible rfl)
          try simp only [Act.put, List.setIfInBounds_toArray, List.set_cons_zero, List.set_cons_succ]
          refine wpT_take (n := 10) (i := 6) (v := ?_) (by decide) (by kernel_rfl) rfl (by kernel_rfl) (by kernel_rfl) (by kernel_rfl) (fun _ _ _ h => h) (Or.inl ⟨by rfl, ?_⟩) hS0 ?_
          rotate_left
          · intro w' hSw
            (try dsimp only at hSw)
            go_simp
            (try with_reducible rfl)
          try simp only [Act.put, List.setIfInBounds_toArray, List.set_cons_zero, List.set_cons_succ]
          refine wpT_take (n := 10) (i := 7) (v := ?_) (by decide) (by kernel_rfl) rfl (by kernel_rfl) (by kernel_rfl) (by kernel_rfl) (fun _ _ _ h => h) (Or.inl ⟨by rfl, ?_⟩) hS0 ?_
          rotate_left
          · intro w' hSw
            (try dsimp only at hSw)
            go_simp
            (try with_reducible rfl)
          try simp only [Act.put, List.setIfInBounds_toArray, List.set_cons_zero, List.set_cons_succ]
          refine wpT_one (n := 10) (i := 2) (by kernel_rfl) rfl (fun K9 hK9 => ?_)
          go_simp
          refine (rof_calls 1 _ (by omega) (by omega)).mono ?_
          rintro e y1 ⟨⟨s1, b1, A1, n1, c1, rfl, t1⟩, hB1⟩
          have H1 : Below w5.heap.size w5 y1 := bl_then (bl_drew (Below.refl _ _)) hB1
          have ao_1 := blk_below ao H1
          have az_1 := blk_below az H1
          have ay_1 := At6q.below ay lgx H1
          have hS1 : y1.cell? ⟨go, 0, none⟩ = some (Value.int .i64 o.s) ∧ y1.cell? ⟨go, 1, none⟩ = some (Value.bool o.g) ∧ y1.cell? ⟨go, 2, none⟩ = some (Value.slice o.A o.n o.c) ∧ y1.cell? ⟨go, 3, none⟩ = some (Value.int .i64 o.s') ∧ y1.cell? ⟨go, 4, none⟩ = some (Value.bool o.g') ∧ y1.cell? ⟨go, 5, none⟩ = some (Value.slice o.A' o.n' o.c') ∧ y1.cell? ⟨g7, 0, none⟩ = some (Value.int .i64 z.s) ∧ y1.cell? ⟨g7, 1, none⟩ = some (Value.bool z.g) ∧ y1.cell? ⟨g7, 2, none⟩ = some (Value.slice z.A z.n z.c) ∧ y1.cell? ⟨gx, kk * 6, none⟩ = some (Value.int .i64 y.s) ∧ y1.cell? ⟨gx, kk * 6 + 1, none⟩ = some (Value.bool y.g) ∧ y1.cell? ⟨gx, kk * 6 + 2, none⟩ = some (Value.slice y.A y.n y.c) ∧ y1.cell? ⟨gx, kk * 6 + 3, none⟩ = some (Value.int .i64 y.s') ∧ y1.cell? ⟨gx, kk * 6 + 4, none⟩ = some (Value.bool y.g') ∧ y1.cell? ⟨gx, kk * 6 + 5, none⟩ = some (Value.slice y.A' y.n' y.c') := qj6 (bx6 ao_1).1 (qj3 (bx3 az_1).1 (at6c ay_1))
          refine hK9.out _ _ (fun _ => hS1) (fun _ => ?_)
          clear hK9 K9
          try simp only [Act.put, List.setIfInBounds_toArray, List.set_cons_zero, List.set_cons_succ]
          refine wpT_take (n := 10) (i := 3) (v := ?_) (by decide) (by kernel_rfl) rfl (by kernel_rfl) (by kernel_rfl) (by kernel_rfl) (fun _ _ _ h => h) (Or.inl ⟨by rfl, ?_⟩) hS1 ?_
          rotate_left
          · intro w' hSw
            (try dsimp only at hSw)
            go_simp
            (try with_reducible rfl)
          try simp only [Act.put, List.setIfInBounds_toArray, List.set_cons_zero, List.set_cons_succ]
          refine wpT_one (n := 10) (i := 8) (by kernel_rfl) rfl (fun K9 hK9 => ?_)
          go_simp
          refine (rrtimes_calls z.s z.g z.A z.n z.c s1 b1 A1 n1 c1 (cz : Rat) y.s y.g y.A y.n y.c y.s' y.g' y.A' y.n' y.c' xq _ (rrv_int (RV.below hz H1) t1) (RRV.below hy H1) KK HC.out HXQ.out (by omega)).mono ?_
          rintro e y2 ⟨⟨s2, b2, A2, n2, c2, s2', b2', A2', n2', c2', rfl, t2⟩, hB2⟩
          have H2 := bl_then H1 hB2
          have ao_2 := blk_below ao H2
          have az_2 := blk_below az H2
          have ay_2 := At6q.below ay lgx H2
          have hS2 : y2.cell? ⟨go, 0, none⟩ = some (Value.int .i64 o.s) ∧ y2.cell? ⟨go, 1, none⟩ = some (Value.bool o.g) ∧ y2.cell? ⟨go, 2, none⟩ = some (Value.slice o.A o.n o.c) ∧ y2.cell? ⟨go, 3, none⟩ = some (Value.int .i64 o.s') ∧ y2.cell? ⟨go, 4, none⟩ = some (Value.bool o.g') ∧ y2.cell? ⟨go, 5, none⟩ = some (Value.slice o.A' o.n' o.c') ∧ y2.cell? ⟨g7, 0, none⟩ = some (Value.int .i64 z.s) ∧ y2.cell? ⟨g7, 1, none⟩ = some (Value.bool z.g) ∧ y2.cell? ⟨g7, 2, none⟩ = some (Value.slice z.A z.n z.c) ∧ y2.cell? ⟨gx, kk * 6, none⟩ = some (Value.int .i64 y.s) ∧ y2.cell? ⟨gx, kk * 6 + 1, none⟩ = some (Value.bool y.g) ∧ y2.cell? ⟨gx, kk * 6 + 2, none⟩ = some (Value.slice y.A y.n y.c) ∧ y2.cell? ⟨gx, kk * 6 + 3, none⟩ = some (Value.int .i64 y.s') ∧ y2.cell? ⟨gx, kk * 6 + 4, none⟩ = some (Value.bool y.g') ∧ y2.cell? ⟨gx, kk * 6 + 5, none⟩ = some (Value.slice y.A' y.n' y.c') := qj6 (bx6 ao_2).1 (qj3 (bx3 az_2).1 (at6c ay_2))
          refine hK9.out _ _ (fun _ => hS2) (fun _ => ?_)
          clear hK9 K9
          try simp only [Act.put, List.setIfInBounds_toArray, List.set_cons_zero, List.set_cons_succ]
          refine wpT_one (n := 10) (i := 9) (by kernel_rfl) rfl (fun K9 hK9 => ?_)
          go_simp
          refine (rrplus_calls o.s o.g o.A o.n o.c o.s' o.g' o.A' o.n' o.c' oq s2 b2 A2 n2 c2 s2' b2' A2' n2' c2' ((cz : Rat) * xq) _ (RRV.below ho H2) t2 KK HOQ.out HMQ.out (by omega)).mono ?_
          rintro e y3 ⟨⟨s3, b3, A3, n3, c3, s3', b3', A3', n3', c3', rfl, t3⟩, hB3⟩
          have H3 := bl_then H2 hB3
          have ao_3 := blk_below ao H3
          have az_3 := blk_below az H3
          have ay_3 := At6q.below ay lgx H3
          have hS3 : y3.cell? ⟨go, 0, none⟩ = some (Value.int .i64 o.s) ∧ y3.cell? ⟨go, 1, none⟩ = some (Value.bool o.g) ∧ y3.cell? ⟨go, 2, none⟩ = some (Value.slice o.A o.n o.c) ∧ y3.cell? ⟨go, 3, none⟩ = some (Value.int .i64 o.s') ∧ y3.cell? ⟨go, 4, none⟩ = some (Value.bool o.g') ∧ y3.cell? ⟨go, 5, none⟩ = some (Value.slice o.A' o.n' o.c') ∧ y3.cell? ⟨g7, 0, none⟩ = some (Value.int .i64 z.s) ∧ y3.cell? ⟨g7, 1, none⟩ = some (Value.bool z.g) ∧ y3.cell? ⟨g7, 2, none⟩ = some (Value.slice z.A z.n z.c) ∧ y3.cell? ⟨gx, kk * 6, none⟩ = some (Value.int .i64 y.s) ∧ y3.cell? ⟨gx, kk * 6 + 1, none⟩ = some (Value.bool y.g) ∧ y3.cell? ⟨gx, kk * 6 + 2, none⟩ = some (Value.slice y.A y.n y.c) ∧ y3.cell? ⟨gx, kk * 6 + 3, none⟩ = some (Value.int .i64 y.s') ∧ y3.cell? ⟨gx, kk * 6 + 4, none⟩ = some (Value.bool y.g') ∧ y3.cell? ⟨gx, kk * 6 + 5, none⟩ = some (Value.slice y.A' y.n' y.c') := qj6 (bx6 ao_3).1 (qj3 (bx3 az_3).1 (at6c ay_3))
          have FF := bx6 ao_3
          obtain ⟨⟨k1, k2, k3, k4, k5, k6⟩, k7⟩ := FF
          refine hK9.out _ _ (fun _ => hS3) (fun _ => ?_)
          clear hK9 K9
          try simp only [Act.put, List.setIfInBounds_toArray, List.set_cons_zero, List.set_cons_succ]
          refine wpT_one (n := 10) (i := 10) (by kernel_rfl) rfl (fun K9 hK9 => ?_)
          go_simp
          refine hK9.out _ _ (fun h => absurd rfl h) (fun _ => ?_)
          clear hK9 K9
          try simp only [Act.put, List.setIfInBounds_toArray, List.set_cons_zero, List.set_cons_succ]
          refine wpT_done (by kernel_rfl) ?_ _
          have hE := Lib.hid (putRR t3 ao_3 (bl_then B0 H3) (by omega))
          have V3 := far6 (blk_below ar H3) (show w.heap.size + 1 ≠ go by omega) (.int .i64 s3) (.bool b3) (.slice A3 n3 c3) (.int .i64 s3') (.bool b3') (.slice A3' n3' c3')
          go_wp2
          go_roundw
          case rel => exact ⟨kk + 1, ⟨s3, b3, A3, n3, c3, s3', b3', A3', n3', c3'⟩, hlt, by go_num, hE.out.2.2, by rw [HV.out]; exact hE.out.1, V3, hE.out.2.1⟩
          case measure => simp [intOf]; omega
      · have hkn : n = kk := by omega
        subst hkn
        obtain ⟨⟨f1, f2, f3, f4, f5, f6⟩, f7⟩ := bx6 ao
        obtain ⟨⟨m1, m2, m3, m4, m5, m6⟩, m7⟩ := bx6 ar
        have hE := Lib.hid (putRR ho ar B0 (by omega))
        go_wp2
        refine bodyPost_ret (results_cell_row rfl _ _ (w.heap.size + 1) 51 #[.int .i64 o.s, .bool o.g, .slice o.A o.n o.c, .int .i64 o.s', .bool o.g', .slice o.A' o.n' o.c'] (0, 0) _ rfl hE.out.2.2 Tryz.underlying51 rfl (by kernel_rfl)) rfl ?_
        exact ⟨⟨_, _, _, _, _, _, _, _, _, _, rfl, hE.out.1⟩, hE.out.2.1⟩
end Go.Proofs.YtloplmmnmehkmaaGreat

namespace Go.Proofs.YtloplmmnmehkmaaGreat
open Go.RowKit

/-- The greatest common divisor so far. -/
def dK (zs : List Int) (z : Int) : Nat → Int
  | 0 => (z.natAbs : Int)
  | k + 1 => (Int.gcd (dK zs z k) (zs.getD k 0) : Int)
theorem dK_sz {zs : List Int} {z : Int} {K : Nat} (h : ∀ j, Sz K (zs.getD j 0)) (hz : Sz K z) (k : Nat) : Sz K (dK zs z k) := by
  induction k with
  | zero => exact hz.le (by show ((z.natAbs : Int)).natAbs ≤ _; omega)
  | succ k ih => exact ih.gcd (h k)
theorem jc_mk {w : World} {s : Int} {b : Bool} {A : Option Addr} {n c : Nat} {z : Int} (h : RV w s b A n c z) : ∃ y : JC, s = y.s ∧ b = y.g ∧ A = y.A ∧ n = y.n ∧ c = y.c ∧ RV w y.s y.g y.A y.n y.c z := ⟨⟨s, b, A, n, c⟩, rfl, rfl, rfl, rfl, rfl, h⟩
theorem RV.al2 {w : World} {s : Int} {b : Bool} {A : Option Addr} {n c : Nat} {z : Int} (h : RV w s b A n c z) (o : Obj) : RV (w.alloc o) s b A n c z := h.kp ((Kp.refl _ _).alloc o)
set_option maxHeartbeats 40000000
set_option maxRecDepth 100000
theorem r2value_calls (n : Int) (A : Option Addr) (m c : Nat) (f : Fm) (A' : Option Addr) (m' c' : Nat) (x : List (Int × Int)) (w : World) (h : RdC w A m f.1) (h' : RdN w A' m' x) (hf : I64F f) (hx : I64s x) :
    Calls Tryz.prog 36 #[.int .i64 n, .agg #[.slice A m c, .int .i64 f.2], .slice A' m' c'] w fun e w' => NumR e (valT n f x) (valL n f x) (valE n f x) ∧ Below w.heap.size w w' := by
  have LF := Lib.hid h.1
  have LX := Lib.hid h'.1
  have NO : ¬ (OkF n f ∧ OkX n x) → valT n f x = 0 ∧ valL n f x = 0 ∧ valE n f x = 1 := fun hh => ⟨if_neg hh, if_neg hh, if_neg hh⟩
  have YES : OkF n f → OkX n x → valT n f x = outT (valQ n f x) ∧ valL n f x = outL (valQ n f x) ∧ valE n f x = outE (valQ n f x) := fun h1 h2 => ⟨if_pos ⟨h1, h2⟩, if_pos ⟨h1, h2⟩, if_pos ⟨h1, h2⟩⟩
  generalize valT n f x = vT at *
  generalize valL n f x = vL at *
  generalize valE n f x = vE at *
  go_enter Tryz.func36, Tryz.ntmps36
  go_wp2_with fail
  have a1 : ((w.alloc (.cells #[.slice A m c, .int .i64 f.2] 44)).alloc (.cells #[.int .i64 0, .int .i64 0] 56)).heap[w.heap.size]? = some (.cells #[.slice A m c, .int .i64 f.2] 44 (0, 0)) := blk_alloc (blk_at _ rfl) _
  have a2 : ((w.alloc (.cells #[.slice A m c, .int .i64 f.2] 44)).alloc (.cells #[.int .i64 0, .int .i64 0] 56)).heap[w.heap.size + 1]? = some (.cells #[.int .i64 0, .int .i64 0] 56 (0, 0)) := blk_at _ (by simp)
  have B0 := bl_alloc (bl_alloc (Below.refl w.heap.size w) (.cells #[.slice A m c, .int .i64 f.2] 44)) (.cells #[.int .i64 0, .int .i64 0] 56)
  generalize (w.alloc (.cells #[.slice A m c, .int .i64 f.2] 44)).alloc (.cells #[.int .i64 0, .int .i64 0] 56) = W0 at *
  refine (r2vform_calls n A m c f _ (h.below B0)).mono ?_
  rintro e w1 ⟨he, hB1⟩
  replace a1 := blk_below a1 hB1
  replace a2 := blk_below a2 hB1
  replace B0 := bl_then B0 hB1
  clear hB1
  by_cases hof : OkF n f
  · rw [decide_eq_true hof] at he
    subst he
    go_wp2_with fail
    refine (r2vpoint_calls n A' m' c' x _ (h'.below B0) hx).mono ?_
    rintro e w2 ⟨he, hB1⟩
    replace a1 := blk_below a1 hB1
    replace a2 := blk_below a2 hB1
    replace B0 := bl_then B0 hB1
    clear hB1
    by_cases hox : OkX n x
    · rw [decide_eq_true hox] at he
      subst he
      obtain ⟨nn, rfl⟩ : ∃ nn : Nat, n = nn := ⟨n.toNat, by have := hof.1.1; omega⟩
      have hn8 : nn ≤ 8 := by have := hof.1.2; omega
      have hmm : m = nn := by have h1 := hof.2.1; have h2 := LF.out; omega
      have hmm' : m' = nn := by have h1 := hox.2.1; have h2 := LX.out; omega
      subst hmm hmm'
      obtain ⟨rfl, rfl, rfl⟩ := YES hof hox
      have HOF := Lib.hid hof
      have HOX := Lib.hid hox
      have HQ : Hid (valQ (m' : Int) f x = valK (rowF f) (x.map ratP) m') := Lib.hid (by unfold valQ; rw [Int.toNat_natCast])
      clear YES NO hof hox
      have g1 := bx2 a1
      obtain ⟨g1, g2, g3, g4⟩ := g1
      go_wp2_with fail
      refine (r2to_calls A m' c f _ (h.below B0) hf (by omega)).mono ?_
      rintro e w3 ⟨⟨A3, c3, x3, rfl, t3, t3'⟩, hB1⟩
      replace a2 := blk_below a2 hB1
      replace B0 := bl_then B0 hB1
      clear hB1 g1 g2 g3 g4 a1
      go_wp2_with fail
      refine (r2rats_calls A' m' c' x _ (h'.below B0) hx HOX.out.2.2 (by omega)).mono ?_
      rintro e w4 ⟨⟨A4, c4, rfl, t4⟩, hB1⟩
      replace a2 := blk_below a2 hB1
      replace B0 := bl_then B0 hB1
      replace t3 := t3.below hB1
      replace t3' : x3.Is _ f.2 := RV.below t3' hB1
      clear hB1
      go_wp2_with fail
      refine (r2eval_calls A3 m' c3 x3 f.1 f.2 A4 c4 (x.map ratP) _ t3 t3' t4 hn8 ((rowF_sz HOF.out).mono (by omega)) (fun j => ?_)).mono ?_
      · rcases Nat.lt_or_ge j m' with hj | hj
        · rw [getD_map ratP x j (0, 0) 0 (by rw [LX.out]; exact hj)]
          exact (ratP_sz (HOX.out.2.2 _ (mem_getD (by rw [LX.out]; exact hj)))).mono (by omega)
        · rw [List.getD_eq_getElem?_getD, List.getElem?_eq_none (by rw [List.length_map, LX.out]; exact hj)]
          exact ⟨by show Sz 100 0; unfold Sz; decide, by show Sz 100 1; unfold Sz; decide⟩
      rintro e w5 ⟨⟨s5, b5, A5, n5, c5, s5', b5', A5', n5', c5', rfl, t5⟩, hB1⟩
      replace a2 := blk_below a2 hB1
      replace B0 := bl_then B0 hB1
      rw [show valK (rwZ f.1 f.2) (x.map ratP) m' = valQ (m' : Int) f x from HQ.out.symm] at t5
      clear hB1 t3 t3' t4
      go_wp2_with fail
      refine (rnum_calls s5 b5 A5 n5 c5 s5' b5' A5' n5' c5' _ _ t5).mono ?_
      rintro e w6 ⟨he, hB1⟩
      unfold NumR at he
      subst he
      replace a2 := blk_below a2 hB1
      replace B0 := bl_then B0 hB1
      clear hB1 t5
      obtain ⟨g1, g2, g3, g4⟩ := bx2 a2
      go_wp2
      refine bodyPost_ret (results_cell_tmp_row rfl _ _ (w.heap.size + 1) 56 #[.int .i64 (outT (valQ (m' : Int) f x)), .int .i64 (outL (valQ (m' : Int) f x))] (0, 0) _ _ rfl (blk_set2 a2 _ _) Tryz.underlying56 rfl (by kernel_rfl) rfl) rfl ?_
      exact ⟨rfl, bl_set (bl_set B0 (by simp) _) (by simp) _⟩
    · rw [decide_eq_false hox] at he
      subst he
      obtain ⟨rfl, rfl, rfl⟩ := NO fun hh => hox hh.2
      obtain ⟨g1, g2, g3, g4⟩ := bx2 a2
      clear YES NO hof hox
      go_wp2
      refine bodyPost_ret (results_cell_tmp_row rfl _ _ (w.heap.size + 1) 56 #[.int .i64 0, .int .i64 0] (0, 0) _ _ rfl (blk_set2 a2 _ _) Tryz.underlying56 rfl (by kernel_rfl) rfl) rfl ?_
      exact ⟨rfl, bl_set (bl_set B0 (by simp) _) (by simp) _⟩
  · rw [decide_eq_false hof] at he
    subst he
    obtain ⟨rfl, rfl, rfl⟩ := NO fun hh => hof hh.1
    obtain ⟨g1, g2, g3, g4⟩ := bx2 a2
    clear YES NO hof
    go_wp2
    refine bodyPost_ret (results_cell_tmp_row rfl _ _ (w.heap.size + 1) 56 #[.int .i64 0, .int .i64 0] (0, 0) _ _ rfl (blk_set2 a2 _ _) Tryz.underlying56 rfl (by kernel_rfl) rfl) rfl ?_
    exact ⟨rfl, bl_set (bl_set B0 (by simp) _) (by simp) _⟩
theorem r2div_calls (A : Option Addr) (n c : Nat) (x : JC) (zs : List Int) (z0 : Int) (w : World) (h : RdR w A n zs) (hx : x.Is w z0) (hn : n ≤ 500) (sz : ∀ j, Sz 100 (zs.getD j 0)) (sx : Sz 100 z0) :
    Calls Tryz.prog 125 #[.agg #[.slice A n c, .int .i64 x.s, .bool x.g, .slice x.A x.n x.c]] w fun e w' => RIntR e w' (dK zs z0 n) ∧ Below w.heap.size w w' := by
  have LN := Lib.hid h.1
  have HSZ := Lib.hid sz
  have HD := Lib.hid (dK_sz sz sx)
  clear sz sx
  go_enter Tryz.func125, Tryz.ntmps125
  have a1 := blk_alloc (blk_at (W := w) (.cells #[.slice A n c, .int .i64 x.s, .bool x.g, .slice x.A x.n x.c] 60) rfl) (.cells #[.int .i64 0, .bool false, .slice none 0 0] 49)
  obtain ⟨f1, f2, f3, f4, f5⟩ := q4c a1
  go_wp2_with fail
  clear f1 f2 f3 f4 f5
  have hx1 : RV _ x.s x.g x.A x.n x.c z0 := RV.al2 (RV.al2 hx (.cells #[.slice A n c, .int .i64 x.s, .bool x.g, .slice x.A x.n x.c] 60)) (.cells #[.int .i64 0, .bool false, .slice none 0 0] 49)
  refine (riabs_calls x.s x.g x.A x.n x.c z0 _ hx1).mono ?_
  rintro e w1 ⟨⟨s1, b1, A1, n1, c1, rfl, t1⟩, hB1⟩
  obtain ⟨y, rfl, rfl, rfl, rfl, rfl, hy0⟩ := jc_mk t1
  clear t1 hx1
  replace a1 := blk_alloc (blk_below a1 hB1) (.cells #[.int .i64 y.s, .bool y.g, .slice y.A y.n y.c] 49)
  have az0 : w1.heap[w.heap.size + 1]? = some (.cells #[.int .i64 0, .bool false, .slice none 0 0] 49 (0, 0)) := blk_below (blk_at _ (by simp)) hB1
  have lz := blk_lt az0
  have az := blk_alloc az0 (.cells #[.int .i64 y.s, .bool y.g, .slice y.A y.n y.c] 49)
  have ay : (w1.alloc (.cells #[.int .i64 y.s, .bool y.g, .slice y.A y.n y.c] 49)).heap[w1.heap.size]? = some (.cells #[.int .i64 y.s, .bool y.g, .slice y.A y.n y.c] 49 (0, 0)) := blk_at _ rfl
  have hy := RV.al2 hy0 (.cells #[.int .i64 y.s, .bool y.g, .slice y.A y.n y.c] 49)
  have B0 := bl_alloc (bl_then (bl_alloc (bl_alloc (Below.refl _ _) _) _) hB1) (.cells #[.int .i64 y.s, .bool y.g, .slice y.A y.n y.c] 49)
  clear hB1 az0 hy0
  obtain ⟨f1, f2, f3, f4, f5⟩ := q4c a1
  go_wp2_with fail
  clear f1 f2 f3 f4 f5 a1
  generalize w1.heap.size = g3 at *
  generalize w1.alloc (.cells #[.int .i64 y.s, .bool y.g, .slice y.A y.n y.c] 49) = W1 at *
  go_loopw [12] (fun i wr => ∃ (kk : Nat) (y : JC), kk ≤ n ∧ i = .int .i64 kk ∧ wr.heap[g3]? = some (.cells #[.int .i64 y.s, .bool y.g, .slice y.A y.n y.c] 49 (0, 0)) ∧ RV wr y.s y.g y.A y.n y.c (dK zs z0 kk) ∧ wr.heap[w.heap.size + 1]? = some (.cells #[.int .i64 0, .bool false, .slice none 0 0] 49 (0, 0)) ∧ Below w.heap.size w wr) (fun i _ => n - (intOf i).toNat)
  case atStart => exact ⟨0, y, Nat.zero_le _, rfl, ay, hy, az, B0⟩
  case round =>
    clear ay hy az B0
    obtain ⟨kk, y, hkk, rfl, ay, hy, az, B0⟩ := hrel
    by_cases hlt : kk < n
    · obtain ⟨g, rfl, hg, hc⟩ := (h.below B0).2.2 (by omega)
      obtain ⟨z, ⟨p1, p2, p3⟩, hz0⟩ := hc kk hlt
      have HV := Lib.hid (show dK zs z0 (kk + 1) = (Int.gcd (dK zs z0 kk) (zs.getD kk 0) : Int) from rfl)
      have hz : RV wr z.s z.g z.A z.n z.c (zs.getD kk 0) := hz0
      have HC := Lib.hid (HSZ.out kk)
      have HDK := Lib.hid (HD.out kk)
      clear hc h hz0
      generalize zs.getD kk 0 = cz at *
      generalize dK zs z0 kk = dk at *
      replace ay := blk_alloc ay (.cells #[.int .i64 z.s, .bool z.g, .slice z.A z.n z.c] 49)
      replace az := blk_alloc az (.cells #[.int .i64 z.s, .bool z.g, .slice z.A z.n z.c] 49)
      replace hy := RV.al2 hy (.cells #[.int .i64 z.s, .bool z.g, .slice z.A z.n z.c] 49)
      replace hz := RV.al2 hz (.cells #[.int .i64 z.s, .bool z.g, .slice z.A z.n z.c] 49)
      replace B0 := bl_alloc B0 (.cells #[.int .i64 z.s, .bool z.g, .slice z.A z.n z.c] 49)
      obtain ⟨⟨f1, f2, f3⟩, f4⟩ := bx3 ay
      go_wp2_with fail
      refine (rigcd_calls y.s y.g y.A y.n y.c dk z.s z.g z.A z.n z.c cz _ hy hz 100 HDK.out HC.out (by omega)).mono ?_
      rintro e w2 ⟨⟨s2, b2, A2, n2, c2, rfl, t2⟩, hB2⟩
      replace ay := blk_below ay hB2
      replace az := blk_below az hB2
      replace B0 := bl_then B0 hB2
      clear f1 f2 f3 f4 hB2 p1 p2 p3 hy hz hg
      have hE := Lib.hid (putR t2 ay B0 (by omega))
      have V1 := Lib.hid (blk_far (i := 2) (v := .slice A2 n2 c2) (blk_far (i := 1) (v := .bool b2) (blk_far (i := 0) (v := .int .i64 s2) az (show w.heap.size + 1 ≠ g3 by omega)) (show w.heap.size + 1 ≠ g3 by omega)) (show w.heap.size + 1 ≠ g3 by omega))
      obtain ⟨⟨f1, f2, f3⟩, f4⟩ := bx3 ay
      clear t2 ay az B0
      go_wp2
      go_roundw
      case rel => exact ⟨kk + 1, ⟨s2, b2, A2, n2, c2⟩, hlt, by go_num, hE.out.2.2, by rw [HV.out]; exact hE.out.1, V1.out, hE.out.2.1⟩
      case measure => simp [intOf]; omega
    · have hkn : n = kk := by omega
      subst hkn
      obtain ⟨⟨f1, f2, f3⟩, f4⟩ := bx3 ay
      obtain ⟨⟨m1, m2, m3⟩, m4⟩ := bx3 az
      have hE := Lib.hid (putR hy az B0 (by omega))
      go_wp2
      refine bodyPost_ret (results_cell_row rfl _ _ (w.heap.size + 1) 49 #[.int .i64 y.s, .bool y.g, .slice y.A y.n y.c] (0, 0) _ rfl hE.out.2.2 Tryz.underlying49 rfl (by kernel_rfl)) rfl ?_
      exact ⟨⟨_, _, _, _, _, rfl, hE.out.1⟩, hE.out.2.1⟩
end Go.Proofs.YtloplmmnmehkmaaGreat

namespace Go.Proofs.YtloplmmnmehkmaaGreat
open Go.RowKit

def pz (g z : Int) : Int := if g = 0 then z else z.tdiv g
theorem getD_take_snoc (f : Int → Int) (zs : List Int) (k : Nat) (hk : k < zs.length) : (zs.take (k + 1)).map f = (zs.take k).map f ++ [f (zs.getD k 0)] := map_take_succ f zs 0 k hk
theorem q4kp {w : World} {g : Nat} {a1 a2 a3 a4 : Value} {t : TypeId} (h : w.heap[g]? = some (.cells #[a1, a2, a3, a4] 60 (0, 0))) (ht : 60 ≠ t) (x1 x2 x3 x4 : Value) : Kp t w ((((w.setCell ⟨g, 0, none⟩ x1).setCell ⟨g, 1, none⟩ x2).setCell ⟨g, 2, none⟩ x3).setCell ⟨g, 3, none⟩ x4) :=
  ((((Kp.refl _ _).set (p := ⟨g, 0, none⟩) h ht x1).set (p := ⟨g, 1, none⟩) (blk_set h 0 x1) ht x2).set (p := ⟨g, 2, none⟩) (blk_set (blk_set h 0 x1) 1 x2) ht x3).set (p := ⟨g, 3, none⟩) (blk_set (blk_set (blk_set h 0 x1) 1 x2) 2 x3) ht x4
theorem r4kp {w : World} {g : Nat} {a1 a2 a3 a4 : Value} {t : TypeId} (h : w.heap[g]? = some (.cells #[a1, a2, a3, a4] 60 (0, 0))) (ht : 60 ≠ t) (x1 x2 x3 : Value) : Kp t w (((w.setCell ⟨g, 1, none⟩ x1).setCell ⟨g, 2, none⟩ x2).setCell ⟨g, 3, none⟩ x3) :=
  (((Kp.refl _ _).set (p := ⟨g, 1, none⟩) h ht x1).set (p := ⟨g, 2, none⟩) (blk_set h 1 x1) ht x2).set (p := ⟨g, 3, none⟩) (blk_set (blk_set h 1 x1) 2 x2) ht x3
theorem RdR.kp {w w' : World} {A : Option Addr} {n : Nat} {zs : List Int} (h : RdR w A n zs) (hc : ∀ g o, A = some ⟨g, 0, none⟩ → w'.cell? ⟨g, o, none⟩ = w.cell? ⟨g, o, none⟩) (hs : w.heap.size ≤ w'.heap.size) (k : Kp 3 w w') : RdR w' A n zs := by
  refine ⟨h.1, h.2.1, fun hn => ?_⟩
  obtain ⟨g, e, hg, hcc⟩ := h.2.2 hn
  refine ⟨g, e, Nat.lt_of_lt_of_le hg hs, fun j hj => ?_⟩
  obtain ⟨x, ⟨h1, h2, h3⟩, h4⟩ := hcc j hj
  exact ⟨x, ⟨(hc g _ e).trans h1, (hc g _ e).trans h2, (hc g _ e).trans h3⟩, RV.kp h4 k⟩
theorem blk_grown {W W' : World} {v : Value} {g bs : Nat} {o : Obj} (hgr : W.grownBy W' v.ownBlock) (h : W.heap[g]? = some o) (hne : ∀ b, v.ownBlock = some b → bs ≤ b) (hg : g < bs) : W'.heap[g]? = some o :=
  (hgr.block g (blk_lt h) (fun e => by have := hne g e.symm; omega)).trans h
set_option maxHeartbeats 40000000
set_option maxRecDepth 100000
theorem r2primed_calls (A : Option Addr) (n c : Nat) (x : JC) (zs : List Int) (z0 : Int) (w : World) (h : RdR w A n zs) (hx : x.Is w z0) (hn : n ≤ 500) (sz : ∀ j, Sz 100 (zs.getD j 0)) (sx : Sz 100 z0) :
    Calls Tryz.prog 88 #[.agg #[.slice A n c, .int .i64 x.s, .bool x.g, .slice x.A x.n x.c]] w fun e w' => RowQ e w' n (zs.map (pz (dK zs z0 n))) (pz (dK zs z0 n) z0) ∧ Below w.heap.size w w' := by
  have LN := Lib.hid h.1
  have HSZ := Lib.hid sz
  have HSX := Lib.hid sx
  have HD := Lib.hid (dK_sz sz sx n)
  have HC9 := Lib.hid (fun (w : World) (h : RdR w A n zs) (hx : x.Is w z0) => r2div_calls A n c x zs z0 w h hx hn sz sx)
  clear sz sx
  generalize dK zs z0 n = gd at *
  go_enter Tryz.func88, Tryz.ntmps88
  have a1 := blk_alloc (blk_at (W := w) (.cells #[.slice A n c, .int .i64 x.s, .bool x.g, .slice x.A x.n x.c] 60) rfl) (.cells #[.slice none 0 0, .int .i64 0, .bool false, .slice none 0 0] 60)
  obtain ⟨f1, f2, f3, f4, f5⟩ := q4c a1
  go_wp2_with fail
  clear f1 f2 f3 f4 f5
  have B0 := bl_alloc (bl_alloc (Below.refl w.heap.size w) (.cells #[.slice A n c, .int .i64 x.s, .bool x.g, .slice x.A x.n x.c] 60)) (.cells #[.slice none 0 0, .int .i64 0, .bool false, .slice none 0 0] 60)
  refine (HC9.out _ (h.below B0) (RV.kp hx (Kp.below B0))).mono ?_
  rintro e w1 ⟨⟨s1, b1, A1, n1, c1, rfl, t1⟩, hB1⟩
  obtain ⟨y, rfl, rfl, rfl, rfl, rfl, hy0⟩ := jc_mk t1
  clear t1 HC9
  replace a1 := blk_alloc (blk_below a1 hB1) (.cells #[.int .i64 y.s, .bool y.g, .slice y.A y.n y.c] 49)
  have az0 : w1.heap[w.heap.size + 1]? = some (.cells #[.slice none 0 0, .int .i64 0, .bool false, .slice none 0 0] 60 (0, 0)) := blk_below (blk_at _ (by simp)) hB1
  have lz := blk_lt az0
  have az := blk_alloc az0 (.cells #[.int .i64 y.s, .bool y.g, .slice y.A y.n y.c] 49)
  have ay : (w1.alloc (.cells #[.int .i64 y.s, .bool y.g, .slice y.A y.n y.c] 49)).heap[w1.heap.size]? = some (.cells #[.int .i64 y.s, .bool y.g, .slice y.A y.n y.c] 49 (0, 0)) := blk_at _ rfl
  have hy := RV.al2 hy0 (.cells #[.int .i64 y.s, .bool y.g, .slice y.A y.n y.c] 49)
  replace B0 := bl_alloc (bl_then B0 hB1) (.cells #[.int .i64 y.s, .bool y.g, .slice y.A y.n y.c] 49)
  clear hB1 az0 hy0
  go_upto_region 2 with (fail)
  generalize w1.heap.size = g3 at *
  generalize w1.alloc (.cells #[.int .i64 y.s, .bool y.g, .slice y.A y.n y.c] 49) = W1 at *
  obtain ⟨⟨f1, f2, f3⟩, f4⟩ := bx3 ay
  go_wp2_with fail
  refine (rsign_int_calls y.s y.g y.A y.n y.c gd _ hy).mono ?_
  rintro e w2 ⟨rfl, hB2⟩
  replace a1 := blk_below a1 hB2
  replace az := blk_below az hB2
  replace ay := blk_below ay hB2
  replace hy := hy.below hB2
  replace B0 := bl_then B0 hB2
  clear hB2 f1 f2 f3 f4
  by_cases hg0 : gd = 0
  · have hs : gd.sign = 0 := by rw [hg0]; rfl
    rw [hs]
    have E1 := Lib.hid (show zs.map (pz gd) = zs by
      have : pz gd = id := by funext z; unfold pz; rw [if_pos hg0]; rfl
      rw [this, List.map_id])
    have E2 := Lib.hid (show pz gd z0 = z0 by unfold pz; rw [if_pos hg0])
    obtain ⟨f1, f2, f3, f4, _⟩ := q4c a1
    obtain ⟨m1, m2, m3, m4, m5, m6, m7, m8⟩ := q4c az
    have U1 := blk_set4 az (.slice A n c) (.int .i64 x.s) (.bool x.g) (.slice x.A x.n x.c)
    have U4 := q4_bl (i1 := 0) (i2 := 1) (i3 := 2) (i4 := 3) B0 (show w.heap.size ≤ w.heap.size + 1 by omega) (.slice A n c) (.int .i64 x.s) (.bool x.g) (.slice x.A x.n x.c)
    have U5 := h.below U4
    have U6 : x.Is _ z0 := RV.kp hx (Kp.below U4)
    clear hs hg0
    go_wp2
    refine bodyPost_ret (results_cell_row rfl _ _ (w.heap.size + 1) 60 #[.slice A n c, .int .i64 x.s, .bool x.g, .slice x.A x.n x.c] (0, 0) _ rfl U1 Tryz.underlying60 rfl (by kernel_rfl)) rfl ?_
    exact ⟨⟨A, c, x, rfl, by rw [E1.out]; exact U5, by rw [E2.out]; exact U6⟩, U4⟩
  · have hs : (gd.sign == 0) = false := by
      have : ¬ gd.sign = 0 := fun h => hg0 (Int.sign_eq_zero_iff_zero.1 h)
      simpa using this
    have hs2 : decide (gd.sign = 0) = false := decide_eq_false fun h => hg0 (Int.sign_eq_zero_iff_zero.1 h)
    generalize gd.sign = sg at *
    have HPZ := Lib.hid (fun z => (show pz gd z = z.tdiv gd by unfold pz; rw [if_neg hg0]))
    have l2 := blk_lt ay
    replace a1 := blk_alloc a1 (.cells #[.slice none 0 0, .int .i64 0, .bool false, .slice none 0 0] 60)
    replace az := blk_alloc az (.cells #[.slice none 0 0, .int .i64 0, .bool false, .slice none 0 0] 60)
    replace ay := blk_alloc ay (.cells #[.slice none 0 0, .int .i64 0, .bool false, .slice none 0 0] 60)
    replace hy := RV.al2 hy (.cells #[.slice none 0 0, .int .i64 0, .bool false, .slice none 0 0] 60)
    replace B0 := bl_alloc B0 (.cells #[.slice none 0 0, .int .i64 0, .bool false, .slice none 0 0] 60)
    have ar : (w2.alloc (.cells #[.slice none 0 0, .int .i64 0, .bool false, .slice none 0 0] 60)).heap[w2.heap.size]? = some (.cells #[.slice none 0 0, .int .i64 0, .bool false, .slice none 0 0] 60 (0, 0)) := blk_at _ rfl
    have hx1 : RV (w2.alloc (.cells #[.slice none 0 0, .int .i64 0, .bool false, .slice none 0 0] 60)) x.s x.g x.A x.n x.c z0 := RV.kp hx (Kp.below B0)
    obtain ⟨f1, f2, f3, f4, _⟩ := q4c a1
    obtain ⟨⟨k1, k2, k3⟩, k4⟩ := bx3 ay
    go_wp2_with fail
    refine (rover_calls x.s x.g x.A x.n x.c z0 y.s y.g y.A y.n y.c gd _ hx1 hy 100 HSX.out HD.out (by omega) hg0).mono ?_
    rintro e w5 ⟨⟨s5, b5, A5, n5, c5, s5', b5', A5', n5', c5', rfl, t5, t5'⟩, hB5⟩
    rw [← HPZ.out z0] at t5
    obtain ⟨v, rfl, rfl, rfl, rfl, rfl, hv⟩ := jc_mk t5
    replace a1 := blk_below a1 hB5
    replace az := blk_below az hB5
    replace ay := blk_below ay hB5
    replace ar := blk_below ar hB5
    replace hy := hy.below hB5
    replace B0 := bl_then B0 hB5
    clear f1 f2 f3 f4 k1 k2 k3 k4 t5 t5' hB5 hx1
    obtain ⟨m1, m2, m3, m4, m5, m6, m7, m8⟩ := q4c ar
    have g4e : ∃ g4, g4 = w2.heap.size := ⟨_, rfl⟩
    have kpr : ∀ t, 60 ≠ t → Kp t w5 (((w5.setCell ⟨w2.heap.size, 1, none⟩ (.int .i64 v.s)).setCell ⟨w2.heap.size, 2, none⟩ (.bool v.g)).setCell ⟨w2.heap.size, 3, none⟩ (.slice v.A v.n v.c)) := fun t ht => r4kp ar ht _ _ _
    have U1 : (((w5.setCell ⟨w2.heap.size, 1, none⟩ (.int .i64 v.s)).setCell ⟨w2.heap.size, 2, none⟩ (.bool v.g)).setCell ⟨w2.heap.size, 3, none⟩ (.slice v.A v.n v.c)).heap[w2.heap.size]? = some (.cells #[.slice none 0 0, .int .i64 v.s, .bool v.g, .slice v.A v.n v.c] 60 (0, 0)) := blk_set (blk_set (blk_set ar 1 _) 2 _) 3 _
    have U2 := blk_far (i := 3) (v := .slice v.A v.n v.c) (blk_far (i := 2) (v := .bool v.g) (blk_far (i := 1) (v := .int .i64 v.s) az (show w.heap.size + 1 ≠ w2.heap.size by omega)) (show w.heap.size + 1 ≠ w2.heap.size by omega)) (show w.heap.size + 1 ≠ w2.heap.size by omega)
    have U3 := blk_far (i := 3) (v := .slice v.A v.n v.c) (blk_far (i := 2) (v := .bool v.g) (blk_far (i := 1) (v := .int .i64 v.s) ay (show g3 ≠ w2.heap.size by omega)) (show g3 ≠ w2.heap.size by omega)) (show g3 ≠ w2.heap.size by omega)
    have U4 := blk_far (i := 3) (v := .slice v.A v.n v.c) (blk_far (i := 2) (v := .bool v.g) (blk_far (i := 1) (v := .int .i64 v.s) a1 (show w.heap.size ≠ w2.heap.size by omega)) (show w.heap.size ≠ w2.heap.size by omega)) (show w.heap.size ≠ w2.heap.size by omega)
    have U5 := hv.kp (kpr 3 (by decide))
    have U6 := hy.kp (kpr 3 (by decide))
    have U7 := bl_set (bl_set (bl_set B0 (p := ⟨w2.heap.size, 1, none⟩) (show w.heap.size ≤ w2.heap.size by omega) (.int .i64 v.s)) (p := ⟨w2.heap.size, 2, none⟩) (show w.heap.size ≤ w2.heap.size by omega) (.bool v.g)) (p := ⟨w2.heap.size, 3, none⟩) (show w.heap.size ≤ w2.heap.size by omega) (.slice v.A v.n v.c)
    clear a1 az ay ar hy hv B0 kpr g4e
    go_upto_region 6 with (fail)
    clear m1 m2 m3 m4 m5 m6 m7 m8
    have lg4 : g3 < w2.heap.size := l2
    generalize ((w5.setCell ⟨w2.heap.size, 1, none⟩ (.int .i64 v.s)).setCell ⟨w2.heap.size, 2, none⟩ (.bool v.g)).setCell ⟨w2.heap.size, 3, none⟩ (.slice v.A v.n v.c) = W6 at *
    generalize w2.heap.size = g4 at *
    obtain ⟨bs, hbs⟩ : ∃ bs, bs = W6.heap.size := ⟨_, rfl⟩
    have hb4 : g4 < bs := by rw [hbs]; exact blk_lt U1
    have hbw : w.heap.size + 1 < bs := by rw [hbs]; exact blk_lt U2
    have O0 := Kind.Own.nil (K := KR) W6 bs
    have f1 := (q4c U4).1
    go_wp2_with fail
    clear f1 U4
    go_loopw [27] (fun i wr => ∃ (kk : Nat) (vv : Value), kk ≤ n ∧ i = .int .i64 kk ∧ KR.Own wr bs vv kk ((zs.take kk).map (pz gd)) ∧ bs ≤ wr.heap.size ∧ wr.heap[g4]? = some (.cells #[vv, .int .i64 v.s, .bool v.g, .slice v.A v.n v.c] 60 (0, 0)) ∧ RV wr v.s v.g v.A v.n v.c (pz gd z0) ∧ wr.heap[g3]? = some (.cells #[.int .i64 y.s, .bool y.g, .slice y.A y.n y.c] 49 (0, 0)) ∧ RV wr y.s y.g y.A y.n y.c gd ∧ wr.heap[w.heap.size + 1]? = some (.cells #[.slice none 0 0, .int .i64 0, .bool false, .slice none 0 0] 60 (0, 0)) ∧ Below w.heap.size w wr) (fun i _ => n - (intOf i).toNat)
    case atStart => exact ⟨0, _, Nat.zero_le _, rfl, O0, Nat.le_of_eq hbs, U1, U5, U3, U6, U2, U7⟩
    case round =>
      clear O0 U1 U5 U3 U6 U2 U7
      obtain ⟨kk, vv, hkk, rfl, OW, hbz, ar, hv, ay, hy, az, B0⟩ := hrel
      by_cases hlt : kk < n
      · obtain ⟨g, rfl, hg, hc⟩ := (h.below B0).2.2 (by omega)
        obtain ⟨z, ⟨p1, p2, p3⟩, hz0⟩ := hc kk hlt
        have hz : RV wr z.s z.g z.A z.n z.c (zs.getD kk 0) := hz0
        have HC := Lib.hid (HSZ.out kk)
        have HE := Lib.hid (getD_take_snoc (pz gd) zs kk (by rw [LN.out]; exact hlt))
        have HP := Lib.hid (HPZ.out (zs.getD kk 0))
        obtain ⟨Av, cv, rfl, _⟩ := KR.rdR OW (by omega)
        clear hc h hz0
        generalize zs.getD kk 0 = cz at *
        replace ay := blk_alloc ay (.cells #[.int .i64 z.s, .bool z.g, .slice z.A z.n z.c] 49)
        replace az := blk_alloc az (.cells #[.int .i64 z.s, .bool z.g, .slice z.A z.n z.c] 49)
        replace ar := blk_alloc ar (.cells #[.int .i64 z.s, .bool z.g, .slice z.A z.n z.c] 49)
        replace hy := RV.al2 hy (.cells #[.int .i64 z.s, .bool z.g, .slice z.A z.n z.c] 49)
        replace hz := RV.al2 hz (.cells #[.int .i64 z.s, .bool z.g, .slice z.A z.n z.c] 49)
        replace hv := RV.al2 hv (.cells #[.int .i64 z.s, .bool z.g, .slice z.A z.n z.c] 49)
        replace OW := OW.below KR.ok (bl_alloc (Below.refl _ _) (.cells #[.int .i64 z.s, .bool z.g, .slice z.A z.n z.c] 49))
        replace B0 := bl_alloc B0 (.cells #[.int .i64 z.s, .bool z.g, .slice z.A z.n z.c] 49)
        obtain ⟨⟨f1, f2, f3⟩, f4⟩ := bx3 ay
        go_wp2_with fail
        refine (rover_calls z.s z.g z.A z.n z.c cz y.s y.g y.A y.n y.c gd _ hz hy 100 HC.out HD.out (by omega) hg0).mono ?_
        rintro e w8 ⟨⟨s8, b8, A8, n8, c8, s9, b9, A9', n9, c9', rfl, t8, t9⟩, hB8⟩
        rw [← HP.out] at t8
        obtain ⟨q, rfl, rfl, rfl, rfl, rfl, hq⟩ := jc_mk t8
        clear f1 f2 f3 f4 p1 p2 p3 hz hg t8 t9
        have H2 : Below wr.heap.size wr w8 := bl_then (bl_alloc (Below.refl _ _) _) hB8
        have B1 := bl_alloc (bl_alloc (bl_alloc (bl_then B0 hB8) (.cells #[.int .i64 q.s, .bool q.g, .slice q.A q.n q.c] 49)) (.cells #[.int .i64 s9, .bool b9, .slice A9' n9 c9'] 49)) (.cells #[.int .i64 q.s, .bool q.g, .slice q.A q.n q.c] 49)
        have HA := bl_alloc (bl_alloc (bl_alloc hB8 (.cells #[.int .i64 q.s, .bool q.g, .slice q.A q.n q.c] 49)) (.cells #[.int .i64 s9, .bool b9, .slice A9' n9 c9'] 49)) (.cells #[.int .i64 q.s, .bool q.g, .slice q.A q.n q.c] 49)
        have O1 := OW.below KR.ok HA
        have hbz1 : bs ≤ (wr.alloc (.cells #[.int .i64 z.s, .bool z.g, .slice z.A z.n z.c] 49)).heap.size := by simp; omega
        have hbz2 := Nat.le_trans hbz1 HA.size
        have t3 : KR.Is (((w8.alloc (.cells #[.int .i64 q.s, .bool q.g, .slice q.A q.n q.c] 49)).alloc (.cells #[.int .i64 s9, .bool b9, .slice A9' n9 c9'] 49)).alloc (.cells #[.int .i64 q.s, .bool q.g, .slice q.A q.n q.c] 49)) q (pz gd cz) := RV.al2 (RV.al2 (RV.al2 hq _) _) _
        obtain ⟨v', W', hrun, O2, hgr⟩ := appg1 (c := 1) (g := w8.heap.size + 1 + 1) KR.ok 58 _ 40 info_rint Tryz.underlying58 rfl (by omega) O1 q (pz gd cz) _ (blk_at _ (by simp)) rfl t3 (by omega) hbz2
        rw [← HE.out] at O2
        have V2 : Below w.heap.size w W' := below_of_grown B1 hgr B1.size (fun b hb => by have := O1.ge b hb; omega)
        have ar2 := blk_grown hgr (blk_below ar HA) O1.ge hb4
        have az2 := blk_grown hgr (blk_below az HA) O1.ge hbw
        have ay2 := blk_grown hgr (blk_below ay HA) O1.ge (show g3 < bs by omega)
        have hv2 := (RV.kp hv (Kp.below HA)).kp (O1.kpg hgr 3 (by decide))
        have hy2 := (RV.kp hy (Kp.below HA)).kp (O1.kpg hgr 3 (by decide))
        have HR := Lib.hid hrun
        have hsz2 : bs ≤ W'.heap.size := Nat.le_trans hbz2 hgr.size
        obtain ⟨A9, c9, rfl, _⟩ := KR.rdR O2 (by omega)
        have kpr : ∀ t, 60 ≠ t → Kp t W' (W'.setCell ⟨g4, 0, none⟩ (.slice A9 (kk + 1) c9)) := fun t ht => (Kp.refl _ _).set (p := ⟨g4, 0, none⟩) ar2 ht _
        have X1 : (W'.setCell ⟨g4, 0, none⟩ (.slice A9 (kk + 1) c9)).heap[g4]? = some (.cells #[.slice A9 (kk + 1) c9, .int .i64 v.s, .bool v.g, .slice v.A v.n v.c] 60 (0, 0)) := blk_set ar2 0 _
        have X2 := O2.kps (kpr 49 (by decide)) (fun y r h => RV.kp h (kpr 3 (by decide)))
        have X3 := hv2.kp (kpr 3 (by decide))
        have X4 := hy2.kp (kpr 3 (by decide))
        have X5 := blk_far (i := 0) (v := .slice A9 (kk + 1) c9) az2 (show w.heap.size + 1 ≠ g4 by omega)
        have X6 := blk_far (i := 0) (v := .slice A9 (kk + 1) c9) ay2 (show g3 ≠ g4 by omega)
        have X7 := bl_set V2 (p := ⟨g4, 0, none⟩) (show w.heap.size ≤ g4 by omega) (.slice A9 (kk + 1) c9)
        have X8 : bs ≤ (W'.setCell ⟨g4, 0, none⟩ (.slice A9 (kk + 1) c9)).heap.size := by simpa using hsz2
        have k9 := q4c ar2
        obtain ⟨k1, k2, k3, k4, k5, k6, k7, k8⟩ := k9
        have f9 := (q4c (blk_alloc (blk_alloc (blk_below ar hB8) (.cells #[.int .i64 q.s, .bool q.g, .slice q.A q.n q.c] 49)) (.cells #[.int .i64 s9, .bool b9, .slice A9' n9 c9'] 49))).1
        have HX := Lib.hid (And.intro X2 (And.intro X8 (And.intro X1 (And.intro X3 (And.intro X6 (And.intro X4 (And.intro X5 X7)))))))
        clear X1 X2 X3 X4 X5 X6 X7 X8 kpr hrun hgr O1 O2 t3 hv2 hy2 ar2 az2 ay2 V2 B1 HA H2 hq ar ay az hv hy OW B0 hsz2
        go_wp2_with (at_builtin; refine wpList_ap rfl (.tmp 38) (.tmp 40) 58 (by rfl) _ _ (by rfl) (by rfl) _ (by rfl) _ _ HR.out ?_)
        go_roundw
        case rel => exact ⟨kk + 1, _, hlt, by go_num, HX.out.1, HX.out.2.1, HX.out.2.2.1, HX.out.2.2.2.1, HX.out.2.2.2.2.1, HX.out.2.2.2.2.2.1, HX.out.2.2.2.2.2.2.1, HX.out.2.2.2.2.2.2.2⟩
        case measure => simp [intOf]; omega
      · have hkn : n = kk := by omega
        subst hkn
        obtain ⟨Av, cv, rfl, _⟩ := KR.rdR OW (by omega)
        obtain ⟨k1, k2, k3, k4, k5, k6, k7, k8⟩ := q4c ar
        obtain ⟨m1, m2, m3, m4, m5, m6, m7, m8⟩ := q4c az
        have U1 := blk_set4 az (.slice Av n cv) (.int .i64 v.s) (.bool v.g) (.slice v.A v.n v.c)
        have kpr : ∀ t, 60 ≠ t → Kp t wr _ := fun t ht => q4kp az ht (.slice Av n cv) (.int .i64 v.s) (.bool v.g) (.slice v.A v.n v.c)
        have U2 := OW.kps (kpr 49 (by decide)) (fun y r h => RV.kp h (kpr 3 (by decide)))
        have U3 := hv.kp (kpr 3 (by decide))
        have U4 := q4_bl (i1 := 0) (i2 := 1) (i3 := 2) (i4 := 3) B0 (show w.heap.size ≤ w.heap.size + 1 by omega) (.slice Av n cv) (.int .i64 v.s) (.bool v.g) (.slice v.A v.n v.c)
        rw [List.take_of_length_le (by rw [LN.out]; exact Nat.le_refl _)] at U2
        obtain ⟨A8, c8, e8, U5⟩ := KR.rdR U2 (by omega)
        cases e8
        clear kpr
        go_wp2
        refine bodyPost_ret (results_cell_row rfl _ _ (w.heap.size + 1) 60 #[.slice Av n cv, .int .i64 v.s, .bool v.g, .slice v.A v.n v.c] (0, 0) _ rfl U1 Tryz.underlying60 rfl (by kernel_rfl)) rfl ?_
        exact ⟨⟨Av, cv, v, rfl, U5, U3⟩, U4⟩
end Go.Proofs.YtloplmmnmehkmaaGreat

namespace Go.Proofs.YtloplmmnmehkmaaGreat
open Go.RowKit

theorem qj23 {A B C D E : Prop} (h : A ∧ B) (h2 : C ∧ D ∧ E) : A ∧ B ∧ C ∧ D ∧ E := ⟨h.1, h.2, h2⟩
theorem bx3c {w : World} {g : Nat} {t : TypeId} {a b c : Value} (h : w.heap[g]? = some (.cells #[a, b, c] t (0, 0))) : w.cell? ⟨g, 0, none⟩ = some a ∧ w.cell? ⟨g, 1, none⟩ = some b ∧ w.cell? ⟨g, 2, none⟩ = some c := (bx3 h).1
theorem RV.dr2 {w : World} {s : Int} {b : Bool} {A : Option Addr} {n c : Nat} {z : Int} (h : RV w s b A n c z) : RV w.drew s b A n c z := h.kp (Kp.refl _ _).drew
set_option maxHeartbeats 40000000
set_option maxRecDepth 100000
theorem r2from_calls (A : Option Addr) (n c : Nat) (x : JC) (zs : List Int) (z0 : Int) (w : World) (h : RdR w A n zs) (hx : x.Is w z0) (hm : ∀ z ∈ zs, mid z) (hm0 : mid z0) :
    Calls Tryz.prog 73 #[.agg #[.slice A n c, .int .i64 x.s, .bool x.g, .slice x.A x.n x.c]] w fun e w' => (∃ v, e = .returned (.tuple #[v, .bool true]) ∧ FmR v w' (zs, z0)) ∧ Below w.heap.size w w' := by
  have LN := Lib.hid h.1
  have hn := h.2.1
  have HM := Lib.hid hm
  obtain ⟨hm1, hm2⟩ := hm0
  obtain ⟨cs, om, qm⟩ := made_i n hn
  have OM := Lib.hid om
  clear om hm
  go_enter Tryz.func73, Tryz.ntmps73
  go_upto_region 3 with (fail)
  have B0 : Below w.heap.size w ((((w.alloc (.cells #[.slice A n c, .int .i64 x.s, .bool x.g, .slice x.A x.n x.c] 60)).alloc (.cells #[.slice none 0 0, .int .i64 0] 44)).alloc (.cells cs 3)).alloc (.cells #[.slice (some ⟨w.heap.size + 1 + 1, 0, none⟩) n n, .int .i64 0] 44)) := bl_alloc (bl_alloc (bl_alloc (bl_alloc (Below.refl w.heap.size w) _) _) _) _
  have a1 : ((((w.alloc (.cells #[.slice A n c, .int .i64 x.s, .bool x.g, .slice x.A x.n x.c] 60)).alloc (.cells #[.slice none 0 0, .int .i64 0] 44)).alloc (.cells cs 3)).alloc (.cells #[.slice (some ⟨w.heap.size + 1 + 1, 0, none⟩) n n, .int .i64 0] 44)).heap[w.heap.size]? = some (.cells #[.slice A n c, .int .i64 x.s, .bool x.g, .slice x.A x.n x.c] 60 (0, 0)) := blk_alloc (blk_alloc (blk_alloc (blk_at _ rfl) _) _) _
  have a2 : ((((w.alloc (.cells #[.slice A n c, .int .i64 x.s, .bool x.g, .slice x.A x.n x.c] 60)).alloc (.cells #[.slice none 0 0, .int .i64 0] 44)).alloc (.cells cs 3)).alloc (.cells #[.slice (some ⟨w.heap.size + 1 + 1, 0, none⟩) n n, .int .i64 0] 44)).heap[w.heap.size + 1]? = some (.cells #[.slice none 0 0, .int .i64 0] 44 (0, 0)) := blk_alloc (blk_alloc (blk_at _ (by simp)) _) _
  have OQ : OwnI ((((w.alloc (.cells #[.slice A n c, .int .i64 x.s, .bool x.g, .slice x.A x.n x.c] 60)).alloc (.cells #[.slice none 0 0, .int .i64 0] 44)).alloc (.cells cs 3)).alloc (.cells #[.slice (some ⟨w.heap.size + 1 + 1, 0, none⟩) n n, .int .i64 0] 44)) w.heap.size (w.heap.size + 1 + 1) n n (List.replicate n 0) := (OM.out _ _ _ (by simp) (by simp; omega)).al _
  have a4 : ((((w.alloc (.cells #[.slice A n c, .int .i64 x.s, .bool x.g, .slice x.A x.n x.c] 60)).alloc (.cells #[.slice none 0 0, .int .i64 0] 44)).alloc (.cells cs 3)).alloc (.cells #[.slice (some ⟨w.heap.size + 1 + 1, 0, none⟩) n n, .int .i64 0] 44)).heap[w.heap.size + 1 + 1 + 1]? = some (.cells #[.slice (some ⟨w.heap.size + 1 + 1, 0, none⟩) n n, .int .i64 0] 44 (0, 0)) := blk_at _ (by simp)
  generalize (((w.alloc (.cells #[.slice A n c, .int .i64 x.s, .bool x.g, .slice x.A x.n x.c] 60)).alloc (.cells #[.slice none 0 0, .int .i64 0] 44)).alloc (.cells cs 3)).alloc (.cells #[.slice (some ⟨w.heap.size + 1 + 1, 0, none⟩) n n, .int .i64 0] 44) = W0 at *
  have c1 := (q4c a1).1
  rw [uptoi_zero (fun j => zs.getD j 0) n] at OQ
  go_wp2_with fail
  clear c1 qm
  go_loopw [5, 18] (fun bv i wr => ∃ kk : Nat, kk ≤ n ∧ bv = .bool true ∧ i = .int .i64 kk ∧ OwnI wr w.heap.size (w.heap.size + 1 + 1) n n (uptoi (fun j => zs.getD j 0) n kk) ∧ wr.heap[w.heap.size + 1 + 1 + 1]? = some (.cells #[.slice (some ⟨w.heap.size + 1 + 1, 0, none⟩) n n, .int .i64 0] 44 (0, 0)) ∧ wr.heap[w.heap.size + 1]? = some (.cells #[.slice none 0 0, .int .i64 0] 44 (0, 0)) ∧ wr.heap[w.heap.size]? = some (.cells #[.slice A n c, .int .i64 x.s, .bool x.g, .slice x.A x.n x.c] 60 (0, 0)) ∧ Below w.heap.size w wr) (fun _ i _ => n - (intOf i).toNat)
  case atStart => exact ⟨0, Nat.zero_le _, rfl, rfl, OQ, a4, a2, a1, B0⟩
  case round =>
    clear OQ a4 a2 a1 B0
    obtain ⟨kk, hkk, rfl, rfl, OQ, a4, a2, a1, B0⟩ := hrel
    by_cases hlt : kk < n
    · obtain ⟨g, rfl, hg, hc⟩ := (h.below B0).2.2 (by omega)
      obtain ⟨z, ⟨p1, p2, p3⟩, hz0⟩ := hc kk hlt
      have hz : RV wr z.s z.g z.A z.n z.c (zs.getD kk 0) := hz0
      obtain ⟨hc1, hc2⟩ := HM.out _ (mem_getD (d := 0) (by rw [LN.out]; exact hlt) : zs.getD kk 0 ∈ zs)
      clear hc h hz0
      have hk0 : (0 : Int) ≤ (kk : Int) := by omega
      have hkn : (kk : Int) < (n : Int) := by omega
      have lw4 := blk_lt a4
      have lws := OQ.ge
      go_upto_region 7 with (fail)
      have a5 : (wr.alloc (.cells #[.int .i64 z.s, .bool z.g, .slice z.A z.n z.c] 49)).heap[wr.heap.size]? = some (.cells #[.int .i64 z.s, .bool z.g, .slice z.A z.n z.c] 49 (0, 0)) := blk_at _ rfl
      replace a4 := blk_alloc a4 (.cells #[.int .i64 z.s, .bool z.g, .slice z.A z.n z.c] 49)
      replace a2 := blk_alloc a2 (.cells #[.int .i64 z.s, .bool z.g, .slice z.A z.n z.c] 49)
      replace a1 := blk_alloc a1 (.cells #[.int .i64 z.s, .bool z.g, .slice z.A z.n z.c] 49)
      replace B0 := bl_alloc B0 (.cells #[.int .i64 z.s, .bool z.g, .slice z.A z.n z.c] 49)
      replace OQ := OQ.al (.cells #[.int .i64 z.s, .bool z.g, .slice z.A z.n z.c] 49)
      replace hz := RV.al2 hz (.cells #[.int .i64 z.s, .bool z.g, .slice z.A z.n z.c] 49)
      clear p1 p2 p3 hg
      generalize hg9 : wr.heap.size = g9 at *
      generalize wr.alloc (.cells #[.int .i64 z.s, .bool z.g, .slice z.A z.n z.c] 49) = W9 at *
      clear hg9
      generalize hq1 : zs.getD kk 0 = cz at *
      have HQ1 := Lib.hid hq1
      clear hq1
      have a2_0 := a2
      have a4_0 := a4
      have a5_0 := a5
      have HB_0 := B0
      have hz_0 := hz
      go_region_held3 (fun W => W.cell? ⟨w.heap.size + 1 + 1 + 1, 0, none⟩ = some (Value.slice (some ⟨w.heap.size + 1 + 1, 0, none⟩) n n) ∧ W.cell? ⟨w.heap.size + 1 + 1 + 1, 1, none⟩ = some (Value.int .i64 0) ∧ W.cell? ⟨g9, 0, none⟩ = some (Value.int .i64 z.s) ∧ W.cell? ⟨g9, 1, none⟩ = some (Value.bool z.g) ∧ W.cell? ⟨g9, 2, none⟩ = some (Value.slice z.A z.n z.c)) (first | (refine qj23 (qx2 (t := 44) ?_) (bx3c (t := 49) ?_) <;> (repeat (first | with_reducible exact a4_1 | with_reducible exact a4_0 | with_reducible exact a5_1 | with_reducible exact a5_0 | with_reducible refine blk_alloc ?_ _ | with_reducible refine blk_drew ?_ | with_reducible refine blk_far ?_ ?_ | omega)); done) | go_keep) (first | (go_at_call 74; refine (small_yes z.s z.g z.A z.n z.c cz _ (by repeat (first | with_reducible exact hz_0 | with_reducible refine RV.al2 ?_ _ | with_reducible refine RV.dr2 ?_)) hc1 hc2).mono ?_; rintro e ww ⟨rfl, hB5⟩; have a4_1 : ww.heap[w.heap.size + 1 + 1 + 1]? = some (.cells #[.slice (some ⟨w.heap.size + 1 + 1, 0, none⟩) n n, .int .i64 0] 44 (0, 0)) := (by repeat (first | with_reducible exact a4_0 | with_reducible refine blk_below ?_ hB5 | with_reducible refine blk_alloc ?_ _ | with_reducible refine blk_drew ?_)); have a5_1 : ww.heap[g9]? = some (.cells #[.int .i64 z.s, .bool z.g, .slice z.A z.n z.c] 49 (0, 0)) := (by repeat (first | with_reducible exact a5_0 | with_reducible refine blk_below ?_ hB5 | with_reducible refine blk_alloc ?_ _ | with_reducible refine blk_drew ?_)); have a2_1 : ww.heap[w.heap.size + 1]? = some (.cells #[.slice none 0 0, .int .i64 0] 44 (0, 0)) := (by repeat (first | with_reducible exact a2_0 | with_reducible refine blk_below ?_ hB5 | with_reducible refine blk_alloc ?_ _ | with_reducible refine blk_drew ?_)); have a1_1 := (blk_below (blk_drew a1) hB5); have HB_1 : Below w.heap.size w ww := (by repeat (first | with_reducible exact HB_0 | with_reducible refine bl_then ?_ hB5 | with_reducible refine bl_alloc ?_ _ | with_reducible refine bl_drew ?_)); have OQ_1 := (by first | exact OwnI.below OQ hB5 | exact OwnI.below (OwnI.dr OQ) hB5); have o1 := OQ_1.at kk hlt; have o2 := OQ_1.frozen kk; have lg := OQ_1.ge.2) | fail)
      all_goals
        have U1 := Lib.hid (OwnI.set OQ_1 HB_1 (Nat.le_refl _) kk cz)
        have U4 := blk_far (i := kk) (v := .int .i64 cz) a4_1 (show w.heap.size + 1 + 1 + 1 ≠ w.heap.size + 1 + 1 by omega)
        have U3 := blk_far (i := kk) (v := .int .i64 cz) a2_1 (show w.heap.size + 1 ≠ w.heap.size + 1 + 1 by omega)
        have U5 := blk_far (i := kk) (v := .int .i64 cz) a1_1 (show w.heap.size ≠ w.heap.size + 1 + 1 by omega)
        go_wp2
        go_roundw
        case rel =>
          refine ⟨kk + 1, hlt, rfl, by go_num, ?_, U4, U3, U5, U1.out.2⟩
          have h9 := U1.out.1
          rw [← HQ1.out, uptoi_set (fun j => zs.getD j 0) n kk hlt] at h9
          rw [HQ1.out] at h9
          exact h9
        case measure => simp [intOf]; omega
    · have hkn : n = kk := by omega
      subst hkn
      rw [uptoi_full (fun j => zs.getD j 0) n zs LN.out (fun j hj => rfl)] at OQ
      have hx1 : RV wr x.s x.g x.A x.n x.c z0 := RV.kp hx (Kp.below B0)
      obtain ⟨f1, f2, f3, f4, _⟩ := q4c a1
      go_wp2_with fail
      refine (small_yes x.s x.g x.A x.n x.c z0 _ hx1 hm1 hm2).mono ?_
      rintro e w5 ⟨rfl, hB5⟩
      replace a4 := blk_below a4 hB5
      replace a2 := blk_below a2 hB5
      replace B0 := bl_then B0 hB5
      replace OQ := OQ.below hB5
      clear f1 f2 f3 f4 a1 hB5 hx1
      have ha := OQ.ge
      have b4 : (w5.setCell ⟨w.heap.size + 1 + 1 + 1, 1, none⟩ (.int .i64 z0)).heap[w.heap.size + 1 + 1 + 1]? = some (.cells #[.slice (some ⟨w.heap.size + 1 + 1, 0, none⟩) n n, .int .i64 z0] 44 (0, 0)) := blk_set a4 1 _
      have b2 := blk_far (i := 1) (v := .int .i64 z0) a2 (show w.heap.size + 1 ≠ w.heap.size + 1 + 1 + 1 by omega)
      have bO := OQ.far (w' := w5.setCell ⟨w.heap.size + 1 + 1 + 1, 1, none⟩ (.int .i64 z0)) (heap_setCell_other _ _ _ _ (show w.heap.size + 1 + 1 ≠ w.heap.size + 1 + 1 + 1 by omega))
      have bB := bl_set B0 (p := ⟨w.heap.size + 1 + 1 + 1, 1, none⟩) (show w.heap.size ≤ w.heap.size + 1 + 1 + 1 by omega) (.int .i64 z0)
      obtain ⟨m1, m2, m3, m4⟩ := bx2 a4
      obtain ⟨k1, k2, k3, k4⟩ := bx2 b4
      obtain ⟨l1, l2, l3, l4⟩ := bx2 b2
      have V1 := bO.far (w' := (w5.setCell ⟨w.heap.size + 1 + 1 + 1, 1, none⟩ (.int .i64 z0)).setCell ⟨w.heap.size + 1, 0, none⟩ (.slice (some ⟨w.heap.size + 1 + 1, 0, none⟩) n n)) (heap_setCell_other _ _ _ _ (show w.heap.size + 1 + 1 ≠ w.heap.size + 1 by omega))
      have V2 := V1.far (w' := ((w5.setCell ⟨w.heap.size + 1 + 1 + 1, 1, none⟩ (.int .i64 z0)).setCell ⟨w.heap.size + 1, 0, none⟩ (.slice (some ⟨w.heap.size + 1 + 1, 0, none⟩) n n)).setCell ⟨w.heap.size + 1, 1, none⟩ (.int .i64 z0)) (heap_setCell_other _ _ _ _ (show w.heap.size + 1 + 1 ≠ w.heap.size + 1 by omega))
      clear V1
      go_wp2
      refine bodyPost_ret (results_cell_tmp_row rfl _ _ (w.heap.size + 1) 44 #[.slice (some ⟨w.heap.size + 1 + 1, 0, none⟩) n n, .int .i64 z0] (0, 0) _ _ rfl (blk_set2 b2 _ _) Tryz.underlying44 rfl (by kernel_rfl) rfl) rfl ?_
      exact ⟨⟨_, rfl, _, _, _, rfl, V2.rd⟩, bl_set (bl_set bB (by simp) _) (by simp) _⟩
end Go.Proofs.YtloplmmnmehkmaaGreat

namespace Go.Proofs.YtloplmmnmehkmaaGreat
open Go.RowKit

theorem mid_sz {z : Int} (h : mid z) : Sz 100 z := by
  unfold Sz mid at *
  exact Nat.lt_of_le_of_lt (show z.natAbs ≤ 1152921504606846976 by omega) (by decide)
theorem okf_sz {n : Int} {f : Fm} (h : OkF n f) (j : Nat) : Sz 100 (f.1.getD j 0) := by
  rcases Nat.lt_or_ge j f.1.length with hj | hj
  · exact mid_sz (h.2.2.2 _ (mem_getD hj))
  · rw [List.getD_eq_getElem?_getD, List.getElem?_eq_none hj]; exact mid_sz (by unfold mid; simp)
theorem pz_mid {g z : Int} (h : mid z) : mid (pz g z) := by
  unfold pz
  by_cases hg : g = 0
  · rw [if_pos hg]; exact h
  · rw [if_neg hg]
    have := tdiv_abs z g
    unfold mid at *
    omega
theorem sclM_int (m : Int) (zs : List Int) : sclM m (zs.map fun x : Int => (x : Rat)) = m := by
  induction zs generalizing m with
  | nil => rfl
  | cons x l ih =>
    show sclM (m * (((x : Rat).den : Int) / (Int.gcd m ((x : Rat).den : Int) : Int))) (l.map fun x : Int => (x : Rat)) = m
    rw [Rat.den_intCast, ih]
    simp
theorem sclO_int (zs : List Int) : sclO 1 (zs.map fun x : Int => (x : Rat)) = zs := by
  unfold sclO
  rw [List.map_map]
  refine (List.map_congr_left fun x _ => ?_).trans (List.map_id zs)
  show (x : Rat).num * (1 / ((x : Rat).den : Int)) = x
  rw [Rat.num_intCast, Rat.den_intCast]
  simp
theorem dK_nn (zs : List Int) (z : Int) (k : Nat) : 0 ≤ dK zs z k := by
  cases k with
  | zero => show 0 ≤ (z.natAbs : Int); omega
  | succ k => show 0 ≤ (Int.gcd _ _ : Int); omega
theorem dK_dvd (zs : List Int) (z : Int) (k : Nat) : dK zs z k ∣ z ∧ ∀ j, j < k → dK zs z k ∣ zs.getD j 0 := by
  induction k with
  | zero => exact ⟨Int.natAbs_dvd.2 (Int.dvd_refl z), fun j hj => absurd hj (by omega)⟩
  | succ k ih =>
    have h1 : dK zs z (k + 1) ∣ dK zs z k := Int.gcd_dvd_left ..
    refine ⟨Int.dvd_trans h1 ih.1, fun j hj => ?_⟩
    rcases Nat.lt_or_ge j k with h | h
    · exact Int.dvd_trans h1 (ih.2 j h)
    · have : j = k := by omega
      subst this
      exact Int.gcd_dvd_right ..
theorem dK_great (zs : List Int) (z d : Int) (k : Nat) (hz : d ∣ z) (h : ∀ j, j < k → d ∣ zs.getD j 0) : d ∣ dK zs z k := by
  induction k with
  | zero => exact Int.dvd_natAbs.2 hz
  | succ k ih => exact Int.dvd_coe_gcd (ih fun j hj => h j (by omega)) (h k (by omega))
theorem nn_antisymm {a b : Int} (ha : 0 ≤ a) (hb : 0 ≤ b) (h : a ∣ b) (k : b ∣ a) : a = b := by
  have h1 := Int.natAbs_dvd_natAbs.2 h
  have h2 := Int.natAbs_dvd_natAbs.2 k
  have := Nat.dvd_antisymm h1 h2
  omega
theorem dK_scl (zs : List Int) (z : Int) : sclG 0 (zs ++ [z]) = dK zs z zs.length := by
  obtain ⟨s0, _, s2, s3⟩ := sclG_spec 0 (by omega) (zs ++ [z])
  obtain ⟨d1, d2⟩ := dK_dvd zs z zs.length
  refine nn_antisymm s0 (dK_nn _ _ _) (dK_great _ _ _ _ (s2 z (by simp)) fun j hj => s2 _ (List.mem_append_left _ (mem_getD hj))) (s3 _ (Int.dvd_zero _) fun y hy => ?_)
  rcases List.mem_append.1 hy with h | h
  · obtain ⟨j, hj, rfl⟩ := List.getElem_of_mem h
    have := d2 j hj
    rwa [List.getD_eq_getElem?_getD, List.getElem?_eq_getElem hj] at this
  · rw [List.mem_singleton] at h; rw [h]; exact d1
/-- The primitive form. -/
theorem scl_form (f : Fm) : scl ((rowF f).1 ++ [(rowF f).2]) = (f.1 ++ [f.2]).map (pz (dK f.1 f.2 f.1.length)) := by
  have e : (rowF f).1 ++ [(rowF f).2] = (f.1 ++ [f.2]).map fun x : Int => (x : Rat) := by simp [rowF]
  rw [e]
  unfold scl
  simp only
  rw [sclM_int, sclO_int, dK_scl]
  by_cases hg : dK f.1 f.2 f.1.length = 0
  · rw [if_pos hg]
    refine ((List.map_congr_left fun x _ => ?_).trans (List.map_id _)).symm
    unfold pz; rw [if_pos hg]; rfl
  · rw [if_neg hg]
    refine List.map_congr_left fun x hx => ?_
    unfold pz
    rw [if_neg hg, Int.tdiv_eq_ediv_of_dvd]
    obtain ⟨d1, d2⟩ := dK_dvd f.1 f.2 f.1.length
    rcases List.mem_append.1 hx with h | h
    · obtain ⟨j, hj, rfl⟩ := List.getElem_of_mem h
      have := d2 j hj
      rwa [List.getD_eq_getElem?_getD, List.getElem?_eq_getElem hj] at this
    · rw [List.mem_singleton] at h; rw [h]; exact d1
theorem prim_law {n : Int} {f : Fm} (h : OkF n f) : outF (prm (rowF f)) = (f.1.map (pz (dK f.1 f.2 f.1.length)), pz (dK f.1 f.2 f.1.length) f.2) := by
  have hl : (rowF f).1.length = f.1.length := by simp [rowF]
  have e : prm (rowF f) = rowF (f.1.map (pz (dK f.1 f.2 f.1.length)), pz (dK f.1 f.2 f.1.length) f.2) := by
    unfold prm
    simp only
    rw [scl_form, hl]
    refine Prod.ext ?_ ?_
    · show ((((f.1 ++ [f.2]).map (pz (dK f.1 f.2 f.1.length))).take f.1.length).map fun z : Int => (z : Rat)) = (f.1.map (pz (dK f.1 f.2 f.1.length))).map fun x : Int => (x : Rat)
      rw [← List.map_take, List.take_left]
    · show ((((f.1 ++ [f.2]).map (pz (dK f.1 f.2 f.1.length))).getD f.1.length 0 : Int) : Rat) = ((pz (dK f.1 f.2 f.1.length) f.2 : Int) : Rat)
      rw [getD_map (pz (dK f.1 f.2 f.1.length)) (f.1 ++ [f.2]) f.1.length 0 0 (by simp), getD_app_one f.1 f.2 0 _ rfl]
  have hok : outOk (prm (rowF f)) := by
    rw [e]
    refine ⟨?_, fun q hq => ?_⟩
    · show mid ((pz (dK f.1 f.2 f.1.length) f.2 : Int) : Rat).num
      rw [Rat.num_intCast]; exact pz_mid h.2.2.1
    · obtain ⟨y, hy, rfl⟩ := List.mem_map.1 hq
      obtain ⟨x, hx, rfl⟩ := List.mem_map.1 hy
      rw [Rat.num_intCast]; exact pz_mid (h.2.2.2 x hx)
  unfold outF
  rw [if_pos hok, e]
  unfold outW rowF
  refine Prod.ext ?_ ?_
  · show ((f.1.map (pz (dK f.1 f.2 f.1.length))).map fun x : Int => (x : Rat)).map Rat.num = _
    rw [List.map_map]
    exact (List.map_congr_left fun x _ => Rat.num_intCast x).trans (List.map_id _)
  · exact Rat.num_intCast _
set_option maxHeartbeats 40000000
set_option maxRecDepth 100000
theorem r2prim_calls (n : Int) (A : Option Addr) (m c : Nat) (f : Fm) (w : World) (h : RdC w A m f.1) (hf : I64F f) :
    Calls Tryz.prog 38 #[.int .i64 n, .agg #[.slice A m c, .int .i64 f.2]] w fun e w' => (∃ v, e = .returned (.tuple #[v, .int .i64 (prmE n f)]) ∧ FmR v w' (prmF n f)) ∧ Below w.heap.size w w' := by
  have LF := Lib.hid h.1
  have NO : ¬ OkF n f → prmE n f = 1 ∧ prmF n f = ([], 0) := fun hh => ⟨if_neg hh, if_neg hh⟩
  have YES : OkF n f → prmE n f = 0 ∧ prmF n f = (f.1.map (pz (dK f.1 f.2 m)), pz (dK f.1 f.2 m) f.2) := fun h1 => ⟨if_pos h1, (if_pos h1).trans (by rw [← LF.out]; exact prim_law h1)⟩
  generalize prmE n f = vE at *
  generalize prmF n f = vF at *
  go_enter Tryz.func38, Tryz.ntmps38
  go_wp2_with fail
  have a1 : ((w.alloc (.cells #[.slice A m c, .int .i64 f.2] 44)).alloc (.cells #[.slice none 0 0, .int .i64 0] 44)).heap[w.heap.size]? = some (.cells #[.slice A m c, .int .i64 f.2] 44 (0, 0)) := blk_alloc (blk_at _ rfl) _
  have a2 : ((w.alloc (.cells #[.slice A m c, .int .i64 f.2] 44)).alloc (.cells #[.slice none 0 0, .int .i64 0] 44)).heap[w.heap.size + 1]? = some (.cells #[.slice none 0 0, .int .i64 0] 44 (0, 0)) := blk_at _ (by simp)
  have B0 := bl_alloc (bl_alloc (Below.refl w.heap.size w) (.cells #[.slice A m c, .int .i64 f.2] 44)) (.cells #[.slice none 0 0, .int .i64 0] 44)
  generalize (w.alloc (.cells #[.slice A m c, .int .i64 f.2] 44)).alloc (.cells #[.slice none 0 0, .int .i64 0] 44) = W0 at *
  refine (r2vform_calls n A m c f _ (h.below B0)).mono ?_
  rintro e w1 ⟨he, hB1⟩
  replace a1 := blk_below a1 hB1
  replace a2 := blk_below a2 hB1
  replace B0 := bl_then B0 hB1
  clear hB1
  by_cases hof : OkF n f
  · rw [decide_eq_true hof] at he
    subst he
    have hm8 : m ≤ 8 := by have h1 := hof.2.1; have h2 := LF.out; have h3 := hof.1.2; omega
    obtain ⟨rfl, rfl⟩ := YES hof
    have HOF := Lib.hid hof
    clear YES NO hof
    obtain ⟨g1, g2, g3, g4⟩ := bx2 a1
    go_wp2_with fail
    refine (r2to_calls A m c f _ (h.below B0) hf (by omega)).mono ?_
    rintro e w3 ⟨⟨A3, c3, x3, rfl, t3, t3'⟩, hB1⟩
    replace a2 := blk_below a2 hB1
    replace B0 := bl_then B0 hB1
    clear hB1 g1 g2 g3 g4 a1
    go_wp2_with fail
    refine (r2primed_calls A3 m c3 x3 f.1 f.2 _ t3 t3' (by omega) (fun j => okf_sz HOF.out j) (mid_sz HOF.out.2.2.1)).mono ?_
    rintro e w4 ⟨⟨A4, c4, x4, rfl, t4, t4'⟩, hB1⟩
    replace a2 := blk_below a2 hB1
    replace B0 := bl_then B0 hB1
    clear hB1 t3 t3'
    go_wp2_with fail
    refine (r2from_calls A4 m c4 x4 _ _ _ t4 t4' (fun z hz => by obtain ⟨y, hy, rfl⟩ := List.mem_map.1 hz; exact pz_mid (HOF.out.2.2.2 y hy)) (pz_mid HOF.out.2.2.1)).mono ?_
    rintro e w5 ⟨⟨v5, rfl, A5, n5, c5, rfl, t5⟩, hB1⟩
    replace a2 := blk_below a2 hB1
    replace B0 := bl_then B0 hB1
    clear hB1 t4 t4'
    have a3 := blk_alloc a2 (.cells #[.slice A5 n5 c5, .int .i64 (pz (dK f.1 f.2 m) f.2)] 44)
    have ha2 := blk_lt a2
    obtain ⟨g1, g2, g3, g4⟩ := bx2 a3
    have B1 := bl_alloc B0 (.cells #[.slice A5 n5 c5, .int .i64 (pz (dK f.1 f.2 m) f.2)] 44)
    have t6 : RdI ((((w5.alloc (.cells #[.slice A5 n5 c5, .int .i64 (pz (dK f.1 f.2 m) f.2)] 44)).setCell ⟨w.heap.size + 1, 0, none⟩ (.slice A5 n5 c5)).setCell ⟨w.heap.size + 1, 1, none⟩ (.int .i64 (pz (dK f.1 f.2 m) f.2)))) 3 .i64 A5 n5 (f.1.map (pz (dK f.1 f.2 m))) := t5.kp ((((Kp.refl _ _).alloc _).set (p := ⟨w.heap.size + 1, 0, none⟩) a3 (by decide) _).set (p := ⟨w.heap.size + 1, 1, none⟩) (blk_set a3 0 _) (by decide) _)
    have V1 := blk_set2 a3 (.slice A5 n5 c5) (.int .i64 (pz (dK f.1 f.2 m) f.2))
    have V2 := bl_set (bl_set B1 (p := ⟨w.heap.size + 1, 0, none⟩) (by simp) (.slice A5 n5 c5)) (p := ⟨w.heap.size + 1, 1, none⟩) (by simp) (.int .i64 (pz (dK f.1 f.2 m) f.2))
    rw [World.setCell_alloc_past _ _ _ _ ha2, World.setCell_alloc_past _ _ _ _ (by simpa using ha2)] at t6 V1 V2
    clear g1 g2 g3 g4
    obtain ⟨g1, g2, g3, g4⟩ := bx2 a2
    go_wp2
    refine bodyPost_ret (results_cell_tmp_row rfl _ _ (w.heap.size + 1) 44 #[.slice A5 n5 c5, .int .i64 (pz (dK f.1 f.2 m) f.2)] (0, 0) _ _ rfl V1 Tryz.underlying44 rfl (by kernel_rfl) rfl) rfl ?_
    exact ⟨⟨_, rfl, A5, n5, c5, rfl, t6⟩, V2⟩
  · rw [decide_eq_false hof] at he
    subst he
    obtain ⟨rfl, rfl⟩ := NO hof
    obtain ⟨g1, g2, g3, g4⟩ := bx2 a2
    clear YES NO hof
    go_wp2
    refine bodyPost_ret (results_cell_tmp_row rfl _ _ (w.heap.size + 1) 44 #[.slice none 0 0, .int .i64 0] (0, 0) _ _ rfl (blk_set2 a2 _ _) Tryz.underlying44 rfl (by kernel_rfl) rfl) rfl ?_
    exact ⟨⟨_, rfl, FmR.nil _⟩, bl_set (bl_set B0 (by simp) _) (by simp) _⟩
end Go.Proofs.YtloplmmnmehkmaaGreat

namespace Go.Proofs.YtloplmmnmehkmaaGreat
open Go.RowKit

set_option maxHeartbeats 40000000
set_option maxRecDepth 100000
theorem llist_calls (A : Option Addr) (n c : Nat) (A' : Option Addr) (c' : Nat) (xs : List Int) (w : World) (h : RdC w A n xs) (h' : RdC w A' n xs) :
    Calls Tryz.prog 75 #[.slice A n c, .slice A' n c'] w fun e w' => e = .returned (.bool true) ∧ Below w.heap.size w w' := by
  have hn := h.2.1
  go_enter Tryz.func75, Tryz.ntmps75
  go_wp2_with fail
  go_loopw [13] (fun i wr => ∃ k : Nat, k ≤ n ∧ i = .int .i64 k ∧ Below w.heap.size w wr) (fun i _ => n - (intOf i).toNat)
  case atStart => exact ⟨0, Nat.zero_le _, rfl, Below.refl _ _⟩
  case round =>
    obtain ⟨k, hk, rfl, hBw⟩ := hrel
    by_cases hlt : k < n
    · have hr := h.below hBw
      have hr' := h'.below hBw
      obtain ⟨g, off, rfl, hg, hc⟩ := hr.2.2 (by omega)
      obtain ⟨g', off', rfl, hg', hc'⟩ := hr'.2.2 (by omega)
      have c1 := hc k hlt
      have d1 := hc' k hlt
      have hk0 : (0 : Int) ≤ (k : Int) := by omega
      have hkn : (k : Int) < (n : Int) := by omega
      clear hc hr h hc' hr' h'
      generalize xs.getD k 0 = x1 at *
      go_wp2_with fail
      go_region_held3 (fun W => W.cell? ⟨g, off + k, none⟩ = some (Value.int .i64 x1) ∧ W.cell? ⟨g', off' + k, none⟩ = some (Value.int .i64 x1)) (first | exact ⟨c1, d1⟩ | go_keep) (fail)
      all_goals
        go_wp2
        go_roundw
        case rel => exact ⟨k + 1, hlt, by go_num, bl_drew hBw⟩
        case measure => simp [intOf]; omega
    · go_wp2
      go_ret
      exact ⟨rfl, hBw⟩
theorem lnsame_calls (A : Option Addr) (n c : Nat) (A' : Option Addr) (c' : Nat) (xs : List (Int × Int)) (w : World) (h : RdN w A n xs) (h' : RdN w A' n xs) :
    Calls Tryz.prog 18 #[.slice A n c, .slice A' n c'] w fun e w' => e = .returned (.bool true) ∧ Below w.heap.size w w' := by
  have hn := h.2.1
  go_enter Tryz.func18, Tryz.ntmps18
  go_wp2_with fail
  go_loopw [13] (fun i wr => ∃ k : Nat, k ≤ n ∧ i = .int .i64 k ∧ Below w.heap.size w wr) (fun i _ => n - (intOf i).toNat)
  case atStart => exact ⟨0, Nat.zero_le _, rfl, Below.refl _ _⟩
  case round =>
    obtain ⟨k, hk, rfl, hBw⟩ := hrel
    by_cases hlt : k < n
    · have hr := h.below hBw
      have hr' := h'.below hBw
      obtain ⟨g, off, rfl, hg, hc⟩ := hr.2.2 (by omega)
      obtain ⟨g', off', rfl, hg', hc'⟩ := hr'.2.2 (by omega)
      obtain ⟨c1, c2⟩ := hc k hlt
      obtain ⟨d1, d2⟩ := hc' k hlt
      have hk0 : (0 : Int) ≤ (k : Int) := by omega
      have hkn : (k : Int) < (n : Int) := by omega
      clear hc hr h hc' hr' h'
      generalize (xs.getD k (0, 0)).1 = x1 at *
      generalize (xs.getD k (0, 0)).2 = x2 at *
      go_wp2_with fail
      go_region_held3 (fun W => W.cell? ⟨g, off + k * 2, none⟩ = some (Value.int .i64 x1) ∧ W.cell? ⟨g, off + k * 2 + 1, none⟩ = some (Value.int .i64 x2) ∧ W.cell? ⟨g', off' + k * 2, none⟩ = some (Value.int .i64 x1) ∧ W.cell? ⟨g', off' + k * 2 + 1, none⟩ = some (Value.int .i64 x2)) (first | exact ⟨c1, c2, d1, d2⟩ | go_keep) (fail)
      all_goals
        go_wp2
        go_roundw
        case rel => exact ⟨k + 1, hlt, by go_num, bl_drew hBw⟩
        case measure => simp [intOf]; omega
    · go_wp2
      go_ret
      exact ⟨rfl, hBw⟩
theorem lsform_calls (A : Option Addr) (n c : Nat) (A' : Option Addr) (c' : Nat) (f : Fm) (w : World) (h : RdC w A n f.1) (h' : RdC w A' n f.1) :
    Calls Tryz.prog 25 #[.agg #[.slice A n c, .int .i64 f.2], .agg #[.slice A' n c', .int .i64 f.2]] w fun e w' => e = .returned (.bool true) ∧ Below w.heap.size w w' := by
  go_enter Tryz.func25, Tryz.ntmps25
  have a1 : ((w.alloc (.cells #[.slice A n c, .int .i64 f.2] 44)).alloc (.cells #[.slice A' n c', .int .i64 f.2] 44)).heap[w.heap.size]? = some (.cells #[.slice A n c, .int .i64 f.2] 44 (0, 0)) := blk_alloc (blk_at _ rfl) _
  have a2 : ((w.alloc (.cells #[.slice A n c, .int .i64 f.2] 44)).alloc (.cells #[.slice A' n c', .int .i64 f.2] 44)).heap[w.heap.size + 1]? = some (.cells #[.slice A' n c', .int .i64 f.2] 44 (0, 0)) := blk_at _ (by simp)
  have B0 := bl_alloc (bl_alloc (Below.refl w.heap.size w) (.cells #[.slice A n c, .int .i64 f.2] 44)) (.cells #[.slice A' n c', .int .i64 f.2] 44)
  obtain ⟨f1, f2, f3, f4⟩ := bx2 a1
  obtain ⟨g1, g2, g3, g4⟩ := bx2 a2
  go_wp2_with fail
  refine (llist_calls A n c A' c' f.1 _ (h.below B0) (h'.below B0)).mono ?_
  rintro e w1 ⟨rfl, hB1⟩
  have B1 := bl_then B0 hB1
  clear f1 f2 f3 f4 g1 g2 g3 g4 a1 a2 B0 hB1
  go_wp2
  go_ret
  exact ⟨rfl, B1⟩
theorem c4_below {w w' : World} {g o g' o' : Nat} {v1 v2 v3 v4 : Value} (hb : Below w.drew.heap.size w.drew w') (hg : g < w.heap.size) (hg' : g' < w.heap.size) (h1 : w.cell? ⟨g, o, none⟩ = some v1) (h2 : w.cell? ⟨g, o + 1, none⟩ = some v2) (h3 : w.cell? ⟨g', o', none⟩ = some v3) (h4 : w.cell? ⟨g', o' + 1, none⟩ = some v4) :
    w'.cell? ⟨g, o, none⟩ = some v1 ∧ w'.cell? ⟨g, o + 1, none⟩ = some v2 ∧ w'.cell? ⟨g', o', none⟩ = some v3 ∧ w'.cell? ⟨g', o' + 1, none⟩ = some v4 := by
  have k := (cells_below hb).1
  exact ⟨(k _ _ hg).trans h1, (k _ _ hg).trans h2, (k _ _ hg').trans h3, (k _ _ hg').trans h4⟩
theorem lsforms_calls (A : Option Addr) (n c : Nat) (A' : Option Addr) (c' : Nat) (F : List Fm) (w : World) (h : RdF w A n F) (h' : RdF w A' n F) :
    Calls Tryz.prog 17 #[.slice A n c, .slice A' n c'] w fun e w' => e = .returned (.bool true) ∧ Below w.heap.size w w' := by
  have hn := h.2.1
  go_enter Tryz.func17, Tryz.ntmps17
  go_wp2_with fail
  go_loopw [13] (fun i wr => ∃ k : Nat, k ≤ n ∧ i = .int .i64 k ∧ Below w.heap.size w wr) (fun i _ => n - (intOf i).toNat)
  case atStart => exact ⟨0, Nat.zero_le _, rfl, Below.refl _ _⟩
  case round =>
    obtain ⟨k, hk, rfl, hBw⟩ := hrel
    by_cases hlt : k < n
    · have hr := h.below hBw
      have hr' := h'.below hBw
      obtain ⟨g, off, rfl, hg, hc⟩ := hr.2.2 (by omega)
      obtain ⟨g', off', rfl, hg', hc'⟩ := hr'.2.2 (by omega)
      obtain ⟨A1, n1, q1, c1, c2, c3⟩ := hc k hlt
      obtain ⟨A2, n2, q2, d1, d2, d3⟩ := hc' k hlt
      have hn12 : n2 = n1 := by rw [← d3.1, ← c3.1]
      subst hn12
      have hk0 : (0 : Int) ≤ (k : Int) := by omega
      have hkn : (k : Int) < (n : Int) := by omega
      clear hc hr h hc' hr' h'
      generalize F.getD k ([], 0) = f1 at *
      go_wp2_with fail
      go_region_held3 (fun W => W.cell? ⟨g, off + k * 2, none⟩ = some (Value.slice A1 n2 q1) ∧ W.cell? ⟨g, off + k * 2 + 1, none⟩ = some (Value.int .i64 f1.2) ∧ W.cell? ⟨g', off' + k * 2, none⟩ = some (Value.slice A2 n2 q2) ∧ W.cell? ⟨g', off' + k * 2 + 1, none⟩ = some (Value.int .i64 f1.2)) (first | exact ⟨c1, c2, d1, d2⟩ | exact c4_below hB1 hg hg' c1 c2 d1 d2 | go_keep) (first | (go_at_call 25; refine (lsform_calls A1 n2 q1 A2 q2 f1 _ (c3.below (bl_drew (Below.refl _ _))) (d3.below (bl_drew (Below.refl _ _)))).mono ?_; rintro e ww ⟨rfl, hB1⟩; have HB1 := bl_then (bl_drew hBw) hB1) | fail)
      all_goals
        go_wp2
        go_roundw
        case rel => exact ⟨k + 1, hlt, by go_num, HB1⟩
        case measure => simp [intOf]; omega
    · go_wp2
      go_ret
      exact ⟨rfl, hBw⟩
end Go.Proofs.YtloplmmnmehkmaaGreat

namespace Go.Proofs.YtloplmmnmehkmaaGreat
open Go.RowKit

theorem rdc_two {W : World} {g : Nat} {x y : Int} {t : TypeId} (h : W.heap[g]? = some (.cells #[.int .i64 x, .int .i64 y] t (0, 0))) : RdC W (some ⟨g, 0, none⟩) 2 [x, y] := by
  refine ⟨rfl, by omega, fun _ => ⟨g, 0, rfl, blk_lt h, fun j hj => ?_⟩⟩
  match j, hj with
  | 0, _ => exact (blk_cell h 0).1
  | 1, _ => exact (blk_cell h 1).1
theorem rdf_one {W : World} {g g1 : Nat} {x y a : Int} {t1 t : TypeId} (h : W.heap[g]? = some (.cells #[.slice (some ⟨g1, 0, none⟩) 2 2, .int .i64 a] t (0, 0))) (h1 : W.heap[g1]? = some (.cells #[.int .i64 x, .int .i64 y] t1 (0, 0))) : RdF W (some ⟨g, 0, none⟩) 1 [([x, y], a)] := by
  refine ⟨rfl, by omega, fun _ => ⟨g, 0, rfl, blk_lt h, fun j hj => ?_⟩⟩
  have : j = 0 := by omega
  subst this
  exact ⟨_, _, _, (blk_cell h 0).1, (blk_cell h 1).1, rdc_two h1⟩
theorem rdf_two {W : World} {g g1 g2 : Nat} {x1 y1 a1 x2 y2 a2 : Int} {t1 t2 t : TypeId} (h : W.heap[g]? = some (.cells #[.slice (some ⟨g1, 0, none⟩) 2 2, .int .i64 a1, .slice (some ⟨g2, 0, none⟩) 2 2, .int .i64 a2] t (0, 0))) (h1 : W.heap[g1]? = some (.cells #[.int .i64 x1, .int .i64 y1] t1 (0, 0))) (h2 : W.heap[g2]? = some (.cells #[.int .i64 x2, .int .i64 y2] t2 (0, 0))) : RdF W (some ⟨g, 0, none⟩) 2 [([x1, y1], a1), ([x2, y2], a2)] := by
  refine ⟨rfl, by omega, fun _ => ⟨g, 0, rfl, blk_lt h, fun j hj => ?_⟩⟩
  match j, hj with
  | 0, _ => exact ⟨_, _, _, (blk_cell h 0).1, (blk_cell h 1).1, rdc_two h1⟩
  | 1, _ => exact ⟨_, _, _, (blk_cell h 2).1, (blk_cell h 3).1, rdc_two h2⟩
def exE : List Fm := [([1, 1], -3), ([2, -1], 0)]
def exE' : List Fm := [([1, 0], -1), ([0, 1], -2)]
def exS : List Fm := [([2, 4], -6)]
theorem exE_ok : OkFs 2 exE := by decide
theorem exS_ok : OkFs 2 exS := by decide
theorem exE_rows : rowsF 2 (exE.map rowF) = some [([1, 0], -1), ([0, 1], -2)] := by decide +kernel
theorem exS_rows : rowsF 2 (exS.map rowF) = some [([1, 2], -3)] := by decide +kernel
theorem exE_fs : fsOk [(([1, 0] : List Rat), (-1 : Rat)), ([0, 1], -2)] := by decide +kernel
theorem exE_ech : echF 2 exE = (exE', true, 0) := by
  unfold echF
  rw [if_pos exE_ok, show (2 : Int).toNat = 2 from rfl, exE_rows]
  show (fsF _, fsE _ == 0, fsE _) = _
  unfold fsF fsE
  rw [if_pos exE_fs, if_pos exE_fs]
  decide +kernel
theorem exS_os : osOk (solX 2 [(([1, 2] : List Rat), (-3 : Rat))]) := by decide +kernel
theorem exS_sol : solF 2 exS = ([(3, 1), (0, 1)], true, 0) := by
  unfold solF
  rw [if_pos exS_ok, show (2 : Int).toNat = 2 from rfl, exS_rows]
  show (osF _, osE _ == 0, osE _) = _
  unfold osF osE
  rw [if_pos exS_os, if_pos exS_os]
  decide +kernel
theorem i64f_of {n : Int} {f : Fm} (h : OkF n f) : I64F f := by
  refine ⟨fun x hx => ?_, ?_⟩
  · have := h.2.2.2 x hx; unfold mid at this; omega
  · have := h.2.2.1; unfold mid at this; omega
set_option maxHeartbeats 40000000
set_option maxRecDepth 100000
theorem lawake_calls (w : World) : Calls Tryz.prog 10 #[] w fun e w' => e = .returned (.bool true) ∧ Below w.heap.size w w' := by
  have HE := Lib.hid exE_ech
  have HS := Lib.hid exS_sol
  have HCE := Lib.hid (fun A w (h : RdF w A 2 exE) => lech_calls 2 A 2 2 exE w h (fun f hf => i64f_of (exE_ok.2.2 f hf)) (fun f hf => by have := (exE_ok.2.2 f hf).2.1; omega) (by omega))
  have HCS := Lib.hid (fun A w (h : RdF w A 1 exS) => lsol_calls 2 A 1 1 exS w h (fun f hf => i64f_of (exS_ok.2.2 f hf)) (fun f hf => by have := (exS_ok.2.2 f hf).2.1; omega) (by omega))
  rw [HE.out] at HCE
  rw [HS.out] at HCS
  go_enter Tryz.func10, Tryz.ntmps10
  go_wp2_with fail
  have b1 : (((w.alloc (.cells #[.int .i64 1, .int .i64 1] 3)).alloc (.cells #[.int .i64 2, .int .i64 (-1)] 3)).alloc (.cells #[.slice (some ⟨w.heap.size, 0, none⟩) 2 2, .int .i64 (-3), .slice (some ⟨w.heap.size + 1, 0, none⟩) 2 2, .int .i64 0] 44)).heap[w.heap.size]? = some (.cells #[.int .i64 1, .int .i64 1] 3 (0, 0)) := blk_alloc (blk_alloc (blk_at _ rfl) _) _
  have b2 : (((w.alloc (.cells #[.int .i64 1, .int .i64 1] 3)).alloc (.cells #[.int .i64 2, .int .i64 (-1)] 3)).alloc (.cells #[.slice (some ⟨w.heap.size, 0, none⟩) 2 2, .int .i64 (-3), .slice (some ⟨w.heap.size + 1, 0, none⟩) 2 2, .int .i64 0] 44)).heap[w.heap.size + 1]? = some (.cells #[.int .i64 2, .int .i64 (-1)] 3 (0, 0)) := blk_alloc (blk_at _ (by simp)) _
  have b3 : (((w.alloc (.cells #[.int .i64 1, .int .i64 1] 3)).alloc (.cells #[.int .i64 2, .int .i64 (-1)] 3)).alloc (.cells #[.slice (some ⟨w.heap.size, 0, none⟩) 2 2, .int .i64 (-3), .slice (some ⟨w.heap.size + 1, 0, none⟩) 2 2, .int .i64 0] 44)).heap[w.heap.size + 1 + 1]? = some (.cells #[.slice (some ⟨w.heap.size, 0, none⟩) 2 2, .int .i64 (-3), .slice (some ⟨w.heap.size + 1, 0, none⟩) 2 2, .int .i64 0] 44 (0, 0)) := blk_at _ (by simp)
  have B0 := bl_alloc (bl_alloc (bl_alloc (Below.refl w.heap.size w) (.cells #[.int .i64 1, .int .i64 1] 3)) (.cells #[.int .i64 2, .int .i64 (-1)] 3)) (.cells #[.slice (some ⟨w.heap.size, 0, none⟩) 2 2, .int .i64 (-3), .slice (some ⟨w.heap.size + 1, 0, none⟩) 2 2, .int .i64 0] 44)
  refine (HCE.out _ _ (rdf_two b3 b1 b2)).mono ?_
  rintro e w1 ⟨⟨A1, m1, c1, rfl, t1⟩, hB1⟩
  replace B0 := bl_then B0 hB1
  clear b1 b2 b3 hB1 HCE
  go_wp2_with fail
  have b1 : ((w1.alloc (.cells #[.int .i64 2, .int .i64 4] 3)).alloc (.cells #[.slice (some ⟨w1.heap.size, 0, none⟩) 2 2, .int .i64 (-6)] 44)).heap[w1.heap.size]? = some (.cells #[.int .i64 2, .int .i64 4] 3 (0, 0)) := blk_alloc (blk_at _ rfl) _
  have b2 : ((w1.alloc (.cells #[.int .i64 2, .int .i64 4] 3)).alloc (.cells #[.slice (some ⟨w1.heap.size, 0, none⟩) 2 2, .int .i64 (-6)] 44)).heap[w1.heap.size + 1]? = some (.cells #[.slice (some ⟨w1.heap.size, 0, none⟩) 2 2, .int .i64 (-6)] 44 (0, 0)) := blk_at _ (by simp)
  have H1 := bl_alloc (bl_alloc (Below.refl w1.heap.size w1) (.cells #[.int .i64 2, .int .i64 4] 3)) (.cells #[.slice (some ⟨w1.heap.size, 0, none⟩) 2 2, .int .i64 (-6)] 44)
  refine (HCS.out _ _ (rdf_one b2 b1)).mono ?_
  rintro e w2 ⟨⟨A2, m2, c2, rfl, t2⟩, hB2⟩
  replace H1 := bl_then H1 hB2
  replace t1 := t1.below H1
  replace B0 := bl_then B0 H1
  clear b1 b2 hB2 HCS H1
  have hm1 : m1 = 2 := t1.1.symm
  have hm2 : m2 = 2 := t2.1.symm
  subst hm1 hm2
  go_wp2_with fail
  have b1 : (((w2.alloc (.cells #[.int .i64 1, .int .i64 0] 3)).alloc (.cells #[.int .i64 0, .int .i64 1] 3)).alloc (.cells #[.slice (some ⟨w2.heap.size, 0, none⟩) 2 2, .int .i64 (-1), .slice (some ⟨w2.heap.size + 1, 0, none⟩) 2 2, .int .i64 (-2)] 44)).heap[w2.heap.size]? = some (.cells #[.int .i64 1, .int .i64 0] 3 (0, 0)) := blk_alloc (blk_alloc (blk_at _ rfl) _) _
  have b2 : (((w2.alloc (.cells #[.int .i64 1, .int .i64 0] 3)).alloc (.cells #[.int .i64 0, .int .i64 1] 3)).alloc (.cells #[.slice (some ⟨w2.heap.size, 0, none⟩) 2 2, .int .i64 (-1), .slice (some ⟨w2.heap.size + 1, 0, none⟩) 2 2, .int .i64 (-2)] 44)).heap[w2.heap.size + 1]? = some (.cells #[.int .i64 0, .int .i64 1] 3 (0, 0)) := blk_alloc (blk_at _ (by simp)) _
  have b3 : (((w2.alloc (.cells #[.int .i64 1, .int .i64 0] 3)).alloc (.cells #[.int .i64 0, .int .i64 1] 3)).alloc (.cells #[.slice (some ⟨w2.heap.size, 0, none⟩) 2 2, .int .i64 (-1), .slice (some ⟨w2.heap.size + 1, 0, none⟩) 2 2, .int .i64 (-2)] 44)).heap[w2.heap.size + 1 + 1]? = some (.cells #[.slice (some ⟨w2.heap.size, 0, none⟩) 2 2, .int .i64 (-1), .slice (some ⟨w2.heap.size + 1, 0, none⟩) 2 2, .int .i64 (-2)] 44 (0, 0)) := blk_at _ (by simp)
  have H1 := bl_alloc (bl_alloc (bl_alloc (Below.refl w2.heap.size w2) (.cells #[.int .i64 1, .int .i64 0] 3)) (.cells #[.int .i64 0, .int .i64 1] 3)) (.cells #[.slice (some ⟨w2.heap.size, 0, none⟩) 2 2, .int .i64 (-1), .slice (some ⟨w2.heap.size + 1, 0, none⟩) 2 2, .int .i64 (-2)] 44)
  refine (lsforms_calls A1 2 c1 _ 2 exE' _ (t1.below H1) (rdf_two b3 b1 b2)).mono ?_
  rintro e w3 ⟨rfl, hB3⟩
  replace H1 := bl_then H1 hB3
  replace t2 := t2.below H1
  replace B0 := bl_then B0 H1
  clear b1 b2 b3 hB3 H1 t1
  go_wp2_with fail
  have b1 : (w3.alloc (.cells #[.int .i64 3, .int .i64 1, .int .i64 0, .int .i64 1] 56)).heap[w3.heap.size]? = some (.cells #[.int .i64 3, .int .i64 1, .int .i64 0, .int .i64 1] 56 (0, 0)) := blk_at _ rfl
  have H1 := bl_alloc (Below.refl w3.heap.size w3) (.cells #[.int .i64 3, .int .i64 1, .int .i64 0, .int .i64 1] 56)
  refine (lnsame_calls A2 2 c2 _ 2 [(3, 1), (0, 1)] _ (t2.below H1) (RdN.two b1)).mono ?_
  rintro e w4 ⟨rfl, hB4⟩
  replace H1 := bl_then H1 hB4
  replace B0 := bl_then B0 H1
  clear b1 hB4 H1 t2
  go_wp2
  go_ret
  exact ⟨rfl, B0⟩
theorem lfew1_calls (A : Option Addr) (n c : Nat) (f : Fm) (g : Nat) (cp : Nat) (w : World) (hg : w.heap[g]? = some (.cells #[.slice A n c, .int .i64 f.2] 44 (0, 0))) (hn : n ≤ 9223372036854775807) :
    Calls Tryz.prog 9 #[.slice (some ⟨g, 0, none⟩) 1 cp] w fun e w' => e = .returned (.bool (decide (n ≤ 40))) ∧ Below w.heap.size w w' := by
  have hlt := blk_lt hg
  obtain ⟨f1, f2, _, _⟩ := bx2 hg
  have B0 := bl_alloc (Below.refl w.heap.size w) (.cells #[.slice A n c, .int .i64 f.2] 44)
  by_cases h40 : n ≤ 40
  · rw [decide_eq_true h40]
    have d1 : ¬ (40 : Int) < (n : Int) := by omega
    go_enter Tryz.func9, Tryz.ntmps9
    go_wp2_with fail
    go_loopw [7] (fun i wr => ∃ k : Nat, k ≤ 1 ∧ i = .int .i64 k ∧ Below w.heap.size w wr) (fun i _ => 1 - (intOf i).toNat)
    case atStart => exact ⟨0, by omega, rfl, Below.refl _ _⟩
    case round =>
      obtain ⟨k, hk, rfl, hBw⟩ := hrel
      by_cases hl : k < 1
      · have hk0 : k = 0 := by omega
        subst hk0
        obtain ⟨k1, k2, _, _⟩ := bx2 (blk_below hg hBw)
        have hBx := bl_alloc hBw (.cells #[.slice A n c, .int .i64 f.2] 44)
        go_wp2
        go_roundw
        case rel => exact ⟨1, by omega, rfl, hBx⟩
        case measure => simp [intOf]
      · have hk1 : k = 1 := by omega
        subst hk1
        go_wp2
        go_ret
        exact ⟨rfl, hBw⟩
  · rw [decide_eq_false h40]
    have d1 : (40 : Int) < (n : Int) := by omega
    go_enter Tryz.func9, Tryz.ntmps9
    go_wp2_with fail
    go_loopw [7] (fun i wr => i = .int .i64 0 ∧ wr = w) (fun i _ => 1 - (intOf i).toNat)
    case atStart => exact ⟨rfl, rfl⟩
    case round =>
      obtain ⟨rfl, rfl⟩ := hrel
      go_wp2
      go_ret
      exact ⟨rfl, B0⟩
end Go.Proofs.YtloplmmnmehkmaaGreat
