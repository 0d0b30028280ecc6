/- lin: lead. exact: Row.Times. exact: Row.Plus. A region that draws its order and ends in one store: the condition on the world is asked only ahead of the store. lin: Reduce. Slices of rows of the call's own. lin: flat. -/
import Derived.Test.YtjmbpeniibdnoaaQMem
import Derived.Test.YtjmbpeniibdnoaaLinF
import Derived.OrdersHeld
import Derived.StillTail
import Derived.Test.YtjmbpeniibdnoaaLinG
set_option linter.unusedVariables false
set_option linter.unusedSimpArgs false
namespace Go.Proofs.Ytjmbpeniibdnoaa
open Go.RowKit

/-- A row that is read. -/
def RwV (w : World) (A : Option Addr) (n : Nat) (x : RC) (r : Rw) : Prop := RdQ w A n r.1 ∧ x.Is w r.2
theorem RwV.below {w w' : World} {A : Option Addr} {n : Nat} {x : RC} {r : Rw} (h : RwV w A n x r) (hb : Below w.heap.size w w') : RwV w' A n x r := ⟨h.1.below hb, h.2.below hb⟩
theorem ldF_of (l : List Rat) (k : Nat) (hk : k < l.length) (hz : ∀ j, j < k → l.getD j 0 = 0) (hn : l.getD k 0 ≠ 0) : ldF l = k := by
  rcases Nat.lt_trichotomy (ldF l) k with h | h | h
  · exact absurd (hz _ h) (ldF_ne l (by omega))
  · exact h
  · exact absurd (ldF_zero l k h) hn
theorem ldF_full (l : List Rat) (hz : ∀ j, j < l.length → l.getD j 0 = 0) : ldF l = l.length := by
  rcases Nat.lt_or_ge (ldF l) l.length with h | h
  · exact absurd (hz _ h) (ldF_ne l h)
  · have := ldF_le l; omega
theorem num_sign_zero (q : Rat) : q.num.sign = 0 ↔ q = 0 := by
  rw [Int.sign_eq_zero_iff_zero]
  constructor
  · intro h; exact Rat.num_eq_zero.1 h
  · intro h; rw [h]; rfl

set_option maxHeartbeats 40000000 in
set_option maxRecDepth 100000 in
theorem lead_calls (A : Option Addr) (n c : Nat) (x : RC) (b : Bool) (r : Rw) (w : World) (h : RwV w A n x r) :
    Calls Try.prog 42 #[.agg #[.slice A n c, .int .i64 x.v, .slice x.A x.n x.c, .int .i64 x.v', .slice x.A' x.n' x.c', .bool b]] w fun e w' => e = .returned (.int .i64 (ldF r.1)) ∧ Below w.heap.size w w' := by
  have hq := h.1
  have LN := Lib.hid hq.1
  have hn := hq.2.1
  clear h
  generalize x.v = xv
  generalize x.A = xA
  generalize x.n = xn
  generalize x.c = xc
  generalize x.v' = xv'
  generalize x.A' = xA'
  generalize x.n' = xn'
  generalize x.c' = xc'
  clear x
  go_enter Try.func42, Try.ntmps42
  go_upto_region 1 with (fail)
  have B0 := bl_alloc (Below.refl w.heap.size w) (.cells #[.slice A n c, .int .i64 xv, .slice xA xn xc, .int .i64 xv', .slice xA' xn' xc', .bool b] 65)
  have a1 : (w.alloc (.cells #[.slice A n c, .int .i64 xv, .slice xA xn xc, .int .i64 xv', .slice xA' xn' xc', .bool b] 65)).heap[w.heap.size]? = some (.cells #[.slice A n c, .int .i64 xv, .slice xA xn xc, .int .i64 xv', .slice xA' xn' xc', .bool b] 65 (0, 0)) := blk_at _ rfl
  generalize w.alloc (.cells #[.slice A n c, .int .i64 xv, .slice xA xn xc, .int .i64 xv', .slice xA' xn' xc', .bool b] 65) = W0 at *
  obtain ⟨⟨f1, f2, f3, f4, f5, f6⟩, f7⟩ := q6 a1
  go_wp2_with fail
  clear f1 f2 f3 f4 f5 f6 f7
  go_loopw [8] (fun i wr => ∃ k : Nat, k ≤ n ∧ i = .int .i64 k ∧ (∀ j, j < k → r.1.getD j 0 = 0) ∧ wr.heap[w.heap.size]? = some (.cells #[.slice A n c, .int .i64 xv, .slice xA xn xc, .int .i64 xv', .slice xA' xn' xc', .bool b] 65 (0, 0)) ∧ Below w.heap.size w wr) (fun i _ => n - (intOf i).toNat)
  case atStart => exact ⟨0, Nat.zero_le _, rfl, fun j hj => absurd hj (by omega), a1, B0⟩
  case round =>
    clear a1 B0
    obtain ⟨k, hk, rfl, hall, a1, B0⟩ := hrel
    have HALL := Lib.hid hall
    clear hall
    by_cases hlt : k < n
    · obtain ⟨g, off, rfl, hg, hc⟩ := (hq.below B0).2.2.1 (by omega)
      obtain ⟨y, ⟨p1, p2, p3, p4⟩, hy⟩ := hc k hlt
      clear hc hq
      generalize hqk : r.1.getD k 0 = q at *
      have HQK := Lib.hid hqk
      clear hqk
      go_wp2_with fail
      refine (rsign_calls _ _ _ _ _ _ _ _ q _ (hy.kp ((Kp.refl _ _).alloc _))).mono ?_
      rintro e w1 ⟨rfl, hB1⟩
      replace a1 := blk_below (blk_alloc a1 _) hB1
      replace B0 := bl_then (bl_alloc B0 _) hB1
      clear hB1 p1 p2 p3 p4 hy hg
      by_cases h0 : q = 0
      · have hs := (num_sign_zero q).2 h0
        rw [hs]
        subst h0
        clear hs
        go_wp2
        go_roundw
        case rel =>
          refine ⟨k + 1, hlt, by go_num, fun j hj => ?_, a1, B0⟩
          rcases Nat.lt_or_ge j k with h1 | h1
          · exact HALL.out j h1
          · have : j = k := by omega
            subst this
            exact HQK.out
        case measure => simp [intOf]; omega
      · have hs : (q.num.sign != 0) = true := by
          have : ¬ q.num.sign = 0 := fun h => h0 ((num_sign_zero q).1 h)
          simpa using this
        have E : Hid (ldF r.1 = k) := Lib.hid (ldF_of r.1 k (by rw [LN.out]; exact hlt) HALL.out (by rw [HQK.out]; exact h0))
        clear h0
        generalize q.num.sign = sg at *
        go_wp2
        go_ret
        exact ⟨by rw [E.out]; rfl, B0⟩
    · have hkn : k = n := by omega
      subst hkn
      have E : Hid (ldF r.1 = k) := Lib.hid (by rw [ldF_full r.1 (fun j hj => HALL.out j (by rw [LN.out] at hj; exact hj)), LN.out])
      obtain ⟨⟨f1, f2, f3, f4, f5, f6⟩, f7⟩ := q6 a1
      go_wp2
      go_ret
      exact ⟨by rw [E.out]; rfl, B0⟩
end Go.Proofs.Ytjmbpeniibdnoaa

namespace Go.Proofs.Ytjmbpeniibdnoaa
open Go.RowKit

theorem made_cells (n : Nat) : (madeCells #[.int .i64 0, .slice none 0 0, .int .i64 0, .slice none 0 0] (n * 4)).toList = rcl (List.replicate n RC.zero) := by
  apply List.ext_getElem?
  intro j
  rcases Nat.lt_or_ge j (n * 4) with h | h
  · have h1 := rcl_at (List.replicate n RC.zero) (j / 4) (j % 4) (by rw [List.length_replicate]; omega) (by omega)
    rw [show j / 4 * 4 + j % 4 = j by omega] at h1
    rw [h1, List.getD_eq_getElem?_getD, List.getElem?_replicate, if_pos (by omega : j / 4 < n)]
    have h2 : (madeCells #[Value.int .i64 0, .slice none 0 0, .int .i64 0, .slice none 0 0] (n * 4)).toList[j]? = some ((#[Value.int .i64 0, .slice none 0 0, .int .i64 0, .slice none 0 0])[j % 4]!) := by
      unfold madeCells
      simp [h]
    rw [h2]
    have h4 : j % 4 < 4 := by omega
    generalize j % 4 = m at *
    match m, h4 with
    | 0, _ => rfl
    | 1, _ => rfl
    | 2, _ => rfl
    | 3, _ => rfl
  · rw [List.getElem?_eq_none (by rw [Array.length_toList, size_madeCells]; exact h), List.getElem?_eq_none (by rw [rcl_len, List.length_replicate]; exact h)]
/-- make([]Rat, n). -/
theorem made_q (n : Nat) (hn : n ≤ 1000000) : ∃ cs : Array Value, cs.toList = rcl (List.replicate n RC.zero) ∧ ∀ W, (Instr.makeSlice 58 (.int .i64 (n : Nat)) (.int .i64 (n : Nat))).run Try.prog W = .ok (.slice (some ⟨W.heap.size, 0, none⟩) n n) (W.alloc (.cells cs 63)) := by
  have hinfo : (Try.prog.info? 63).map (fun i => (i.zero, i.size, i.bytes)) = some (some (.agg #[.int .i64 0, .slice none 0 0, .int .i64 0, .slice none 0 0]), 4, 64) := by kernel_rfl
  obtain ⟨i, hi, hz0, hz1, hz2⟩ := info_parts hinfo
  refine ⟨_, made_cells n, fun W => ?_⟩
  have h := run_make (P := Try.prog) W 58 63 i _ Try.underlying58 hi hz0 .i64 .i64 (n : Nat) (n : Nat) (by omega) (Int.le_refl _) (by rw [hz2]; omega) (by omega)
  rw [hz1, Int.toNat_natCast] at h
  exact h
/-- A row as a result. -/
def RowR (e : Ending) (w : World) (b : Bool) (r : Rw) : Prop := ∃ (A : Option Addr) (n c : Nat) (x : RC), e = .returned (.agg #[.slice A n c, .int .i64 x.v, .slice x.A x.n x.c, .int .i64 x.v', .slice x.A' x.n' x.c', .bool b]) ∧ RwV w A n x r
/-- The sizes of a row. -/
def SzW (k : Nat) (r : Rw) : Prop := (∀ j, SzR k (r.1.getD j 0)) ∧ SzR k r.2

set_option maxHeartbeats 40000000 in
set_option maxRecDepth 100000 in
theorem rowtimes_calls (A : Option Addr) (n c : Nat) (x : RC) (b : Bool) (r : Rw) (y : RC) (q : Rat) (w : World) (h : RwV w A n x r) (hy : y.Is w q) (k : Nat) (s1 : SzW k r) (s2 : SzR k q) (hk : k ≤ 10000000000) :
    Calls Try.prog 33 #[.agg #[.slice A n c, .int .i64 x.v, .slice x.A x.n x.c, .int .i64 x.v', .slice x.A' x.n' x.c', .bool b], .agg #[.int .i64 y.v, .slice y.A y.n y.c, .int .i64 y.v', .slice y.A' y.n' y.c']] w fun e w' => RowR e w' b (tms r q) ∧ Below w.heap.size w w' := by
  have hyw := hy
  have hq := h.1
  have hx := h.2
  have LN := Lib.hid hq.1
  have hn := hq.2.1
  clear h
  go_enter Try.func33, Try.ntmps33
  go_upto_region 1 with (fail)
  have B0 := bl_alloc (bl_alloc (bl_alloc (Below.refl w.heap.size w) (.cells #[.slice A n c, .int .i64 x.v, .slice x.A x.n x.c, .int .i64 x.v', .slice x.A' x.n' x.c', .bool b] 65)) (.cells #[.int .i64 y.v, .slice y.A y.n y.c, .int .i64 y.v', .slice y.A' y.n' y.c'] 63)) (.cells #[.slice none 0 0, .int .i64 0, .slice none 0 0, .int .i64 0, .slice none 0 0, .bool false] 65)
  have a1 : (((w.alloc (.cells #[.slice A n c, .int .i64 x.v, .slice x.A x.n x.c, .int .i64 x.v', .slice x.A' x.n' x.c', .bool b] 65)).alloc (.cells #[.int .i64 y.v, .slice y.A y.n y.c, .int .i64 y.v', .slice y.A' y.n' y.c'] 63)).alloc (.cells #[.slice none 0 0, .int .i64 0, .slice none 0 0, .int .i64 0, .slice none 0 0, .bool false] 65)).heap[w.heap.size]? = some (.cells #[.slice A n c, .int .i64 x.v, .slice x.A x.n x.c, .int .i64 x.v', .slice x.A' x.n' x.c', .bool b] 65 (0, 0)) := blk_alloc (blk_alloc (blk_at _ rfl) _) _
  have a2 : (((w.alloc (.cells #[.slice A n c, .int .i64 x.v, .slice x.A x.n x.c, .int .i64 x.v', .slice x.A' x.n' x.c', .bool b] 65)).alloc (.cells #[.int .i64 y.v, .slice y.A y.n y.c, .int .i64 y.v', .slice y.A' y.n' y.c'] 63)).alloc (.cells #[.slice none 0 0, .int .i64 0, .slice none 0 0, .int .i64 0, .slice none 0 0, .bool false] 65)).heap[w.heap.size + 1]? = some (.cells #[.int .i64 y.v, .slice y.A y.n y.c, .int .i64 y.v', .slice y.A' y.n' y.c'] 63 (0, 0)) := blk_alloc (blk_at _ (by simp)) _
  have a3 : (((w.alloc (.cells #[.slice A n c, .int .i64 x.v, .slice x.A x.n x.c, .int .i64 x.v', .slice x.A' x.n' x.c', .bool b] 65)).alloc (.cells #[.int .i64 y.v, .slice y.A y.n y.c, .int .i64 y.v', .slice y.A' y.n' y.c'] 63)).alloc (.cells #[.slice none 0 0, .int .i64 0, .slice none 0 0, .int .i64 0, .slice none 0 0, .bool false] 65)).heap[w.heap.size + 1 + 1]? = some (.cells #[.slice none 0 0, .int .i64 0, .slice none 0 0, .int .i64 0, .slice none 0 0, .bool false] 65 (0, 0)) := blk_at _ (by simp)
  replace hx := hx.below B0
  replace hy := hy.below B0
  generalize ((w.alloc (.cells #[.slice A n c, .int .i64 x.v, .slice x.A x.n x.c, .int .i64 x.v', .slice x.A' x.n' x.c', .bool b] 65)).alloc (.cells #[.int .i64 y.v, .slice y.A y.n y.c, .int .i64 y.v', .slice y.A' y.n' y.c'] 63)).alloc (.cells #[.slice none 0 0, .int .i64 0, .slice none 0 0, .int .i64 0, .slice none 0 0, .bool false] 65) = W0 at *
  obtain ⟨cs, hcs, qm⟩ := made_q n hn
  have hx0 : RatV W0 x.v x.A x.n x.c x.v' x.A' x.n' x.c' r.2 := hx
  have hy0 : RatV W0 y.v y.A y.n y.c y.v' y.A' y.n' y.c' q := hy
  go_cut [5, 11] (fun p p11 wc => ∃ (gs go : Nat) (v5 : Int) (A5 : Option Addr) (n5 c5 : Nat) (v5' : Int) (A5' : Option Addr) (n5' c5' : Nat), p = .pointer (some ⟨go, 0, none⟩) ∧ p11 = .slice (some ⟨gs, 0, none⟩) n n ∧ OwnQ wc w.heap.size gs n n (List.replicate n 0) ∧ wc.heap[go]? = some (.cells #[.slice (some ⟨gs, 0, none⟩) n n, .int .i64 v5, .slice A5 n5 c5, .int .i64 v5', .slice A5' n5' c5', .bool b] 65 (0, 0)) ∧ RatV wc v5 A5 n5 c5 v5' A5' n5' c5' (r.2 * q) ∧ wc.heap[w.heap.size]? = some (.cells #[.slice A n c, .int .i64 x.v, .slice x.A x.n x.c, .int .i64 x.v', .slice x.A' x.n' x.c', .bool b] 65 (0, 0)) ∧ wc.heap[w.heap.size + 1]? = some (.cells #[.int .i64 y.v, .slice y.A y.n y.c, .int .i64 y.v', .slice y.A' y.n' y.c'] 63 (0, 0)) ∧ wc.heap[w.heap.size + 1 + 1]? = some (.cells #[.slice none 0 0, .int .i64 0, .slice none 0 0, .int .i64 0, .slice none 0 0, .bool false] 65 (0, 0)) ∧ Below w.heap.size w wc ∧ w.heap.size + 1 + 1 < gs ∧ w.heap.size + 1 + 1 < go ∧ gs ≠ go)
  case first =>
    have lw : w.heap.size ≤ W0.heap.size := by have := blk_lt a1; omega
    have l3 := blk_lt a3
    have a1_0 := a1
    have a2_0 := a2
    have a3_0 := a3
    have HB_0 := B0
    go_region_held3 (fun W => W.cell? ⟨w.heap.size, 0, none⟩ = some (Value.slice A n c) ∧ W.cell? ⟨w.heap.size, 1, none⟩ = some (Value.int .i64 x.v) ∧ W.cell? ⟨w.heap.size, 2, none⟩ = some (Value.slice x.A x.n x.c) ∧ W.cell? ⟨w.heap.size, 3, none⟩ = some (Value.int .i64 x.v') ∧ W.cell? ⟨w.heap.size, 4, none⟩ = some (Value.slice x.A' x.n' x.c') ∧ W.cell? ⟨w.heap.size, 5, none⟩ = some (Value.bool b) ∧ W.cell? ⟨w.heap.size + 1, 0, none⟩ = some (Value.int .i64 y.v) ∧ W.cell? ⟨w.heap.size + 1, 1, none⟩ = some (Value.slice y.A y.n y.c) ∧ W.cell? ⟨w.heap.size + 1, 2, none⟩ = some (Value.int .i64 y.v') ∧ W.cell? ⟨w.heap.size + 1, 3, none⟩ = some (Value.slice y.A' y.n' y.c')) (first | (refine qj6 (qx6 (t := 65) ?_) (qx4 (t := 63) ?_) <;> (repeat (first | with_reducible exact a1_1 | with_reducible exact a1_0 | with_reducible exact a2_1 | with_reducible exact a2_0 | with_reducible refine blk_alloc ?_ _ | with_reducible refine blk_drew ?_ | with_reducible refine q6_far ?_ ?_ _ _ _ _ _ _ | with_reducible refine q4_far ?_ ?_ _ _ _ _ | omega)); done) | go_keep) (first | (go_at_call 56; refine (rmul_calls x.v x.A x.n x.c x.v' x.A' x.n' x.c' r.2 y.v y.A y.n y.c y.v' y.A' y.n' y.c' q _ (by repeat (first | with_reducible exact hx0 | with_reducible refine RatV.al ?_ _ | with_reducible refine RatV.dr ?_)) (by repeat (first | with_reducible exact hy0 | with_reducible refine RatV.al ?_ _ | with_reducible refine RatV.dr ?_)) k s1.2 s2 hk).mono ?_; rintro e ww ⟨⟨v5, A5, n5, c5, v5', A5', n5', c5', rfl, t5⟩, hB5⟩; have a1_1 : ww.heap[w.heap.size]? = some (.cells #[.slice A n c, .int .i64 x.v, .slice x.A x.n x.c, .int .i64 x.v', .slice x.A' x.n' x.c', .bool b] 65 (0, 0)) := (by repeat (first | with_reducible exact a1_0 | with_reducible refine blk_below ?_ hB5 | with_reducible refine blk_alloc ?_ _ | with_reducible refine blk_drew ?_)); have a2_1 : ww.heap[w.heap.size + 1]? = some (.cells #[.int .i64 y.v, .slice y.A y.n y.c, .int .i64 y.v', .slice y.A' y.n' y.c'] 63 (0, 0)) := (by repeat (first | with_reducible exact a2_0 | with_reducible refine blk_below ?_ hB5 | with_reducible refine blk_alloc ?_ _ | with_reducible refine blk_drew ?_)); have a3_1 : ww.heap[w.heap.size + 1 + 1]? = some (.cells #[.slice none 0 0, .int .i64 0, .slice none 0 0, .int .i64 0, .slice none 0 0, .bool false] 65 (0, 0)) := (by repeat (first | with_reducible exact a3_0 | with_reducible refine blk_below ?_ hB5 | with_reducible refine blk_alloc ?_ _ | with_reducible refine blk_drew ?_)); have HB_1 : Below w.heap.size w ww := (by repeat (first | with_reducible exact HB_0 | with_reducible refine bl_then ?_ hB5 | with_reducible refine bl_alloc ?_ _ | with_reducible refine bl_drew ?_)); have l4 := blk_lt a3_1; (first  | (have EM : OwnQ ww w.heap.size W0.heap.size n n (List.replicate n 0) := OwnQ.below (OwnQ.drew (OwnQ.made_at n rfl lw hn cs hcs)) hB5; have lM := EM.ge.2; have EX := q6 (blk_at (W := ww) (.cells #[.slice none 0 0, .int .i64 0, .slice none 0 0, .int .i64 0, .slice none 0 0, .bool false] 65) rfl); obtain ⟨⟨e1, e2, e3, e4, e5, e6⟩, e7, e8, e9, e10, e11, e12⟩ := EX)  | (have EM : OwnQ ww w.heap.size W0.heap.size n n (List.replicate n 0) := OwnQ.below (OwnQ.drew (OwnQ.alloc (OwnQ.made_at n rfl lw hn cs hcs) _)) hB5; have EA : ww.heap[W0.heap.size + 1]? = some (.cells #[.slice none 0 0, .int .i64 0, .slice none 0 0, .int .i64 0, .slice none 0 0, .bool false] 65 (0, 0)) := blk_below (blk_drew (blk_at _ (by simp))) hB5; have lA := blk_lt EA; (try have lM := EM.ge.2); have EX := q6 EA; obtain ⟨⟨e1, e2, e3, e4, e5, e6⟩, e7, e8, e9, e10, e11, e12⟩ := EX)  | (have EM : OwnQ ww w.heap.size (W0.heap.size + 1) n n (List.replicate n 0) := OwnQ.below (OwnQ.drew (OwnQ.made_at (W := W0.alloc (.cells #[.slice none 0 0, .int .i64 0, .slice none 0 0, .int .i64 0, .slice none 0 0, .bool false] 65)) n (by simp) (by simp; omega) hn cs hcs)) hB5; have EA : ww.heap[W0.heap.size]? = some (.cells #[.slice none 0 0, .int .i64 0, .slice none 0 0, .int .i64 0, .slice none 0 0, .bool false] 65 (0, 0)) := blk_below (blk_drew (blk_alloc (blk_at _ rfl) _)) hB5; have lA := blk_lt EA; (try have lM := EM.ge.2); have EX := q6 EA; obtain ⟨⟨e1, e2, e3, e4, e5, e6⟩, e7, e8, e9, e10, e11, e12⟩ := EX)  | (have EA : ww.heap[W0.heap.size]? = some (.cells #[.slice none 0 0, .int .i64 0, .slice none 0 0, .int .i64 0, .slice none 0 0, .bool false] 65 (0, 0)) := blk_below (blk_drew (blk_at _ rfl)) hB5; have lA := blk_lt EA; (try have lM := EM.ge.2); have EX := q6 EA; obtain ⟨⟨e1, e2, e3, e4, e5, e6⟩, e7, e8, e9, e10, e11, e12⟩ := EX; have EY := q6 (blk_alloc EA (.cells cs 63)); obtain ⟨⟨i1, i2, i3, i4, i5, i6⟩, i7, i8, i9, i10, i11, i12⟩ := EY)  | (have EX := q6 (blk_alloc (blk_at (W := ww) (.cells #[.slice none 0 0, .int .i64 0, .slice none 0 0, .int .i64 0, .slice none 0 0, .bool false] 65) rfl) (.cells cs 63)); obtain ⟨⟨e1, e2, e3, e4, e5, e6⟩, e7, e8, e9, e10, e11, e12⟩ := EX))) | fail)
    all_goals
      go_wp2
      go_meet
      case rel =>
        refine ⟨_, _, v5, A5, n5, c5, v5', A5', n5', c5', rfl, rfl, ?_, ?_, ?_, ?_, ?_, ?_, ?_, ?_, ?_, ?_⟩
        · first
            | with_reducible exact OwnQ.alloc (OwnQ.made_at n rfl (by omega) hn cs hcs) _
            | with_reducible exact OwnQ.alloc EM _
            | with_reducible exact OwnQ.st6 EM EA (by omega) _ _ _ _ _ _
            | with_reducible exact OwnQ.made_at n (by simp) (by simp; omega) hn cs hcs
        · first
            | with_reducible exact q6_set EA _ _ _ _ _ _
            | with_reducible exact blk_alloc (q6_set EA _ _ _ _ _ _) _
            | with_reducible exact blk_alloc (blk_at _ rfl) _
            | with_reducible exact blk_at _ (by first | rfl | simp)
        · first
            | with_reducible exact RatV.al t5 _
            | with_reducible exact RatV.al (RatV.al t5 _) _
            | with_reducible exact RV.st6 t5 EA _ _ _ _ _ _
            | with_reducible exact RatV.al (RV.st6 t5 EA _ _ _ _ _ _) _
        · repeat (first | with_reducible exact a1_1 | with_reducible refine blk_alloc ?_ _ | with_reducible refine q6_far ?_ ?_ _ _ _ _ _ _ | omega)
        · repeat (first | with_reducible exact a2_1 | with_reducible refine blk_alloc ?_ _ | with_reducible refine q6_far ?_ ?_ _ _ _ _ _ _ | omega)
        · repeat (first | with_reducible exact a3_1 | with_reducible refine blk_alloc ?_ _ | with_reducible refine q6_far ?_ ?_ _ _ _ _ _ _ | omega)
        · repeat (first | with_reducible exact HB_1 | with_reducible refine bl_alloc ?_ _ | with_reducible refine q6_bl ?_ ?_ _ _ _ _ _ _ | omega)
        · omega
        · omega
        · omega
  case rest =>
    clear a1 a2 a3 B0 hx hy hx0 hy0
    obtain ⟨gs, go, v5, A5, n5, c5, v5', A5', n5', c5', rfl, rfl, OQ, a4, T5, a1, a2, a3, B0, lgs, lgo, hne⟩ := hcut
    have hng := upto_zero (fun j => r.1.getD j 0 * q) n
    rw [hng] at OQ
    clear hng
    obtain ⟨⟨f1, f2, f3, f4, f5, f6⟩, f7⟩ := q6 a1
    go_wp2_with fail
    clear f1 f2 f3 f4 f5 f6 f7
    go_loopw [22] (fun i wr => ∃ kk : Nat, kk ≤ n ∧ i = .int .i64 kk ∧ OwnQ wr w.heap.size gs n n (upto (fun j => r.1.getD j 0 * q) n kk) ∧ wr.heap[go]? = some (.cells #[.slice (some ⟨gs, 0, none⟩) n n, .int .i64 v5, .slice A5 n5 c5, .int .i64 v5', .slice A5' n5' c5', .bool b] 65 (0, 0)) ∧ RatV wr v5 A5 n5 c5 v5' A5' n5' c5' (r.2 * q) ∧ wr.heap[w.heap.size]? = some (.cells #[.slice A n c, .int .i64 x.v, .slice x.A x.n x.c, .int .i64 x.v', .slice x.A' x.n' x.c', .bool b] 65 (0, 0)) ∧ wr.heap[w.heap.size + 1]? = some (.cells #[.int .i64 y.v, .slice y.A y.n y.c, .int .i64 y.v', .slice y.A' y.n' y.c'] 63 (0, 0)) ∧ wr.heap[w.heap.size + 1 + 1]? = some (.cells #[.slice none 0 0, .int .i64 0, .slice none 0 0, .int .i64 0, .slice none 0 0, .bool false] 65 (0, 0)) ∧ Below w.heap.size w wr ∧ w.heap.size + 1 + 1 < gs ∧ w.heap.size + 1 + 1 < go ∧ gs ≠ go) (fun i _ => n - (intOf i).toNat)
    case atStart => exact ⟨0, Nat.zero_le _, rfl, OQ, a4, T5, a1, a2, a3, B0, lgs, lgo, hne⟩
    case round =>
      clear OQ a4 T5 a1 a2 a3 B0 lgs lgo
      obtain ⟨kk, hkk, rfl, OQ, a4, T5, a1, a2, a3, B0, lgs, lgo, _⟩ := hrel
      by_cases hlt : kk < n
      · obtain ⟨g, off, rfl, hg, hc⟩ := (hq.below B0).2.2.1 (by omega)
        obtain ⟨z, ⟨p1, p2, p3, p4⟩, hz⟩ := hc kk hlt
        clear hc hq
        have hk0 : (0 : Int) ≤ (kk : Int) := by omega
        have hkn : (kk : Int) < (n : Int) := by omega
        have lw4 := blk_lt a4
        have lws := OQ.ge.2
        go_upto_region 5 with (fail)
        have a5 : (wr.alloc (.cells #[.int .i64 z.v, .slice z.A z.n z.c, .int .i64 z.v', .slice z.A' z.n' z.c'] 63)).heap[wr.heap.size]? = some (.cells #[.int .i64 z.v, .slice z.A z.n z.c, .int .i64 z.v', .slice z.A' z.n' z.c'] 63 (0, 0)) := blk_at _ rfl
        replace a4 := blk_alloc a4 (.cells #[.int .i64 z.v, .slice z.A z.n z.c, .int .i64 z.v', .slice z.A' z.n' z.c'] 63)
        replace a1 := blk_alloc a1 (.cells #[.int .i64 z.v, .slice z.A z.n z.c, .int .i64 z.v', .slice z.A' z.n' z.c'] 63)
        replace a2 := blk_alloc a2 (.cells #[.int .i64 z.v, .slice z.A z.n z.c, .int .i64 z.v', .slice z.A' z.n' z.c'] 63)
        replace a3 := blk_alloc a3 (.cells #[.int .i64 z.v, .slice z.A z.n z.c, .int .i64 z.v', .slice z.A' z.n' z.c'] 63)
        replace B0 := bl_alloc B0 (.cells #[.int .i64 z.v, .slice z.A z.n z.c, .int .i64 z.v', .slice z.A' z.n' z.c'] 63)
        replace T5 := RatV.al T5 (.cells #[.int .i64 z.v, .slice z.A z.n z.c, .int .i64 z.v', .slice z.A' z.n' z.c'] 63)
        replace OQ := OQ.alloc (.cells #[.int .i64 z.v, .slice z.A z.n z.c, .int .i64 z.v', .slice z.A' z.n' z.c'] 63)
        replace hz : RatV (wr.alloc (.cells #[.int .i64 z.v, .slice z.A z.n z.c, .int .i64 z.v', .slice z.A' z.n' z.c'] 63)) z.v z.A z.n z.c z.v' z.A' z.n' z.c' (r.1.getD kk 0) := RatV.al hz (.cells #[.int .i64 z.v, .slice z.A z.n z.c, .int .i64 z.v', .slice z.A' z.n' z.c'] 63)
        have hyk : RatV (wr.alloc (.cells #[.int .i64 z.v, .slice z.A z.n z.c, .int .i64 z.v', .slice z.A' z.n' z.c'] 63)) y.v y.A y.n y.c y.v' y.A' y.n' y.c' q := RatV.below hyw B0
        clear p1 p2 p3 p4 hg
        generalize hg9 : wr.heap.size = g9 at *
        generalize wr.alloc (.cells #[.int .i64 z.v, .slice z.A z.n z.c, .int .i64 z.v', .slice z.A' z.n' z.c'] 63) = W9 at *
        clear hg9
        have a1_0 := a1
        have a2_0 := a2
        have a3_0 := a3
        have a4_0 := a4
        have a5_0 := a5
        have HB_0 := B0
        go_region_held3 (fun W => W.cell? ⟨go, 0, none⟩ = some (Value.slice (some ⟨gs, 0, none⟩) n n) ∧ W.cell? ⟨go, 1, none⟩ = some (Value.int .i64 v5) ∧ W.cell? ⟨go, 2, none⟩ = some (Value.slice A5 n5 c5) ∧ W.cell? ⟨go, 3, none⟩ = some (Value.int .i64 v5') ∧ W.cell? ⟨go, 4, none⟩ = some (Value.slice A5' n5' c5') ∧ W.cell? ⟨go, 5, none⟩ = some (Value.bool b) ∧ W.cell? ⟨g9, 0, none⟩ = some (Value.int .i64 z.v) ∧ W.cell? ⟨g9, 1, none⟩ = some (Value.slice z.A z.n z.c) ∧ W.cell? ⟨g9, 2, none⟩ = some (Value.int .i64 z.v') ∧ W.cell? ⟨g9, 3, none⟩ = some (Value.slice z.A' z.n' z.c') ∧ W.cell? ⟨w.heap.size + 1, 0, none⟩ = some (Value.int .i64 y.v) ∧ W.cell? ⟨w.heap.size + 1, 1, none⟩ = some (Value.slice y.A y.n y.c) ∧ W.cell? ⟨w.heap.size + 1, 2, none⟩ = some (Value.int .i64 y.v') ∧ W.cell? ⟨w.heap.size + 1, 3, none⟩ = some (Value.slice y.A' y.n' y.c')) (first | (refine qj6 (qx6 (t := 65) ?_) (qj4 (qx4 (t := 63) ?_) (qx4 (t := 63) ?_)) <;> (repeat (first | with_reducible exact a4_1 | with_reducible exact a4_0 | with_reducible exact a5_1 | with_reducible exact a5_0 | with_reducible exact a2_1 | with_reducible exact a2_0 | with_reducible refine blk_alloc ?_ _ | with_reducible refine blk_drew ?_ | with_reducible refine q6_far ?_ ?_ _ _ _ _ _ _ | with_reducible refine q4_far ?_ ?_ _ _ _ _ | omega)); done) | go_keep) (first | (go_at_call 56; refine (rmul_calls z.v z.A z.n z.c z.v' z.A' z.n' z.c' (r.1.getD kk 0) y.v y.A y.n y.c y.v' y.A' y.n' y.c' q _ (by repeat (first | with_reducible exact hz | with_reducible refine RatV.al ?_ _ | with_reducible refine RatV.dr ?_)) (by repeat (first | with_reducible exact hyk | with_reducible refine RatV.al ?_ _ | with_reducible refine RatV.dr ?_)) k (s1.1 kk) s2 hk).mono ?_; rintro e ww ⟨⟨v6, A6, n6, c6, v6', A6', n6', c6', rfl, t6⟩, hB6⟩; have a4_1 : ww.heap[go]? = some (.cells #[.slice (some ⟨gs, 0, none⟩) n n, .int .i64 v5, .slice A5 n5 c5, .int .i64 v5', .slice A5' n5' c5', .bool b] 65 (0, 0)) := (by repeat (first | with_reducible exact a4_0 | with_reducible refine blk_below ?_ hB6 | with_reducible refine blk_alloc ?_ _ | with_reducible refine blk_drew ?_)); have a5_1 : ww.heap[g9]? = some (.cells #[.int .i64 z.v, .slice z.A z.n z.c, .int .i64 z.v', .slice z.A' z.n' z.c'] 63 (0, 0)) := (by repeat (first | with_reducible exact a5_0 | with_reducible refine blk_below ?_ hB6 | with_reducible refine blk_alloc ?_ _ | with_reducible refine blk_drew ?_)); have a2_1 : ww.heap[w.heap.size + 1]? = some (.cells #[.int .i64 y.v, .slice y.A y.n y.c, .int .i64 y.v', .slice y.A' y.n' y.c'] 63 (0, 0)) := (by repeat (first | with_reducible exact a2_0 | with_reducible refine blk_below ?_ hB6 | with_reducible refine blk_alloc ?_ _ | with_reducible refine blk_drew ?_)); have a1_1 : ww.heap[w.heap.size]? = some (.cells #[.slice (some ⟨g, off, none⟩) n c, .int .i64 x.v, .slice x.A x.n x.c, .int .i64 x.v', .slice x.A' x.n' x.c', .bool b] 65 (0, 0)) := (by repeat (first | with_reducible exact a1_0 | with_reducible refine blk_below ?_ hB6 | with_reducible refine blk_alloc ?_ _ | with_reducible refine blk_drew ?_)); have a3_1 : ww.heap[w.heap.size + 1 + 1]? = some (.cells #[.slice none 0 0, .int .i64 0, .slice none 0 0, .int .i64 0, .slice none 0 0, .bool false] 65 (0, 0)) := (by repeat (first | with_reducible exact a3_0 | with_reducible refine blk_below ?_ hB6 | with_reducible refine blk_alloc ?_ _ | with_reducible refine blk_drew ?_)); have HB_1 : Below w.heap.size w ww := (by repeat (first | with_reducible exact HB_0 | with_reducible refine bl_then ?_ hB6 | with_reducible refine bl_alloc ?_ _ | with_reducible refine bl_drew ?_)); have T5_1 := (by first | exact RatV.below T5 hB6 | exact RatV.below (RatV.dr T5) hB6); have OQ_1 := (by first | exact OwnQ.below OQ hB6 | exact OwnQ.below (OwnQ.drew OQ) hB6); have OX := OQ_1.at kk hlt; obtain ⟨z1, ⟨o1, o2, o3, o4⟩, _⟩ := OX; have o5 := OQ_1.frozen (kk * 4); have o6 := OQ_1.frozen (kk * 4 + 1); have o7 := OQ_1.frozen (kk * 4 + 2); have o8 := OQ_1.frozen (kk * 4 + 3); have lg := OQ_1.ge.2) | fail)
        all_goals
          have U1 := Lib.hid (OwnQ.set OQ_1 HB_1 (Nat.le_refl _) kk hlt _ _ _ _ _ _ _ _ _ t6)
          have U2 := OQ_1.blk
          obtain ⟨cs9, U3⟩ := U2
          go_wp2
          go_roundw
          case rel =>
            refine ⟨kk + 1, hlt, by go_num, ?_, ?_, ?_, ?_, ?_, ?_, U1.out.2, lgs, lgo, hne⟩
            · have h9 := U1.out.1
              rw [upto_set (fun j => r.1.getD j 0 * q) n kk hlt] at h9
              exact h9
            · exact q4_far a4_1 (by omega) _ _ _ _
            · exact RV.st4 T5_1 U3 _ _ _ _
            · exact q4_far a1_1 (by omega) _ _ _ _
            · exact q4_far a2_1 (by omega) _ _ _ _
            · exact q4_far a3_1 (by omega) _ _ _ _
          case measure => simp [intOf]; omega
      · have hkn : kk = n := by omega
        subst hkn
        rw [upto_full (fun j => r.1.getD j 0 * q) kk (tms r q).1 (by rw [tms_len]; exact LN.out) (fun j hj => by show _ = (r.1.map (· * q)).getD j 0; rw [getD_map (· * q) r.1 j 0 0 (by rw [LN.out]; exact hj)])] at OQ
        obtain ⟨⟨f1, f2, f3, f4, f5, f6⟩, f7⟩ := q6 a4
        obtain ⟨⟨m1, m2, m3, m4, m5, m6⟩, m7⟩ := q6 a3
        have U1 := q6_set a3 (.slice (some ⟨gs, 0, none⟩) kk kk) (.int .i64 v5) (.slice A5 n5 c5) (.int .i64 v5') (.slice A5' n5' c5') (.bool b)
        have U2 := OQ.st6 a3 (by omega) (.slice (some ⟨gs, 0, none⟩) kk kk) (.int .i64 v5) (.slice A5 n5 c5) (.int .i64 v5') (.slice A5' n5' c5') (.bool b)
        have U3 := RV.st6 T5 a3 (.slice (some ⟨gs, 0, none⟩) kk kk) (.int .i64 v5) (.slice A5 n5 c5) (.int .i64 v5') (.slice A5' n5' c5') (.bool b)
        have U4 := q6_bl B0 (show w.heap.size ≤ w.heap.size + 1 + 1 by omega) (.slice (some ⟨gs, 0, none⟩) kk kk) (.int .i64 v5) (.slice A5 n5 c5) (.int .i64 v5') (.slice A5' n5' c5') (.bool b)
        go_wp2
        refine bodyPost_ret (results_cell_row rfl _ _ (w.heap.size + 1 + 1) 65 #[.slice (some ⟨gs, 0, none⟩) kk kk, .int .i64 v5, .slice A5 n5 c5, .int .i64 v5', .slice A5' n5' c5', .bool b] (0, 0) _ rfl U1 Try.underlying65 rfl (by kernel_rfl)) rfl ?_
        exact ⟨⟨_, kk, kk, ⟨v5, A5, n5, c5, v5', A5', n5', c5'⟩, rfl, OwnQ.rd U2 hn, U3⟩, U4⟩
end Go.Proofs.Ytjmbpeniibdnoaa

namespace Go.Proofs.Ytjmbpeniibdnoaa
open Go.RowKit

theorem pls_at (r s : Rw) (h : s.1.length = r.1.length) (j : Nat) (hj : j < r.1.length) : r.1.getD j 0 + s.1.getD j 0 = (pls r s).1.getD j 0 := by
  have h1 := rv_pls r s h j
  rw [rv_lt _ _ (by rw [pls_len r s h]; exact hj), rv_lt _ _ hj, rv_lt _ _ (by omega)] at h1
  exact h1.symm

set_option maxHeartbeats 40000000 in
set_option maxRecDepth 100000 in
theorem rowplus_calls (A : Option Addr) (n c : Nat) (x : RC) (b : Bool) (r : Rw) (A2 : Option Addr) (c2 : Nat) (y : RC) (b2 : Bool) (s : Rw) (w : World) (h : RwV w A n x r) (h2 : RwV w A2 n y s) (k : Nat) (s1 : SzW k r) (s2 : SzW k s) (hk : k ≤ 10000000000) :
    Calls Try.prog 32 #[.agg #[.slice A n c, .int .i64 x.v, .slice x.A x.n x.c, .int .i64 x.v', .slice x.A' x.n' x.c', .bool b], .agg #[.slice A2 n c2, .int .i64 y.v, .slice y.A y.n y.c, .int .i64 y.v', .slice y.A' y.n' y.c', .bool b2]] w fun e w' => RowR e w' b (pls r s) ∧ Below w.heap.size w w' := by
  have hq := h.1
  have hq2 := h2.1
  have hx := h.2
  have hy := h2.2
  have LN := Lib.hid hq.1
  have LN2 := Lib.hid hq2.1
  have hn := hq.2.1
  clear h h2
  go_enter Try.func32, Try.ntmps32
  go_upto_region 1 with (fail)
  have B0 := bl_alloc (bl_alloc (bl_alloc (Below.refl w.heap.size w) (.cells #[.slice A n c, .int .i64 x.v, .slice x.A x.n x.c, .int .i64 x.v', .slice x.A' x.n' x.c', .bool b] 65)) (.cells #[.slice A2 n c2, .int .i64 y.v, .slice y.A y.n y.c, .int .i64 y.v', .slice y.A' y.n' y.c', .bool b2] 65)) (.cells #[.slice none 0 0, .int .i64 0, .slice none 0 0, .int .i64 0, .slice none 0 0, .bool false] 65)
  have a1 : (((w.alloc (.cells #[.slice A n c, .int .i64 x.v, .slice x.A x.n x.c, .int .i64 x.v', .slice x.A' x.n' x.c', .bool b] 65)).alloc (.cells #[.slice A2 n c2, .int .i64 y.v, .slice y.A y.n y.c, .int .i64 y.v', .slice y.A' y.n' y.c', .bool b2] 65)).alloc (.cells #[.slice none 0 0, .int .i64 0, .slice none 0 0, .int .i64 0, .slice none 0 0, .bool false] 65)).heap[w.heap.size]? = some (.cells #[.slice A n c, .int .i64 x.v, .slice x.A x.n x.c, .int .i64 x.v', .slice x.A' x.n' x.c', .bool b] 65 (0, 0)) := blk_alloc (blk_alloc (blk_at _ rfl) _) _
  have a2 : (((w.alloc (.cells #[.slice A n c, .int .i64 x.v, .slice x.A x.n x.c, .int .i64 x.v', .slice x.A' x.n' x.c', .bool b] 65)).alloc (.cells #[.slice A2 n c2, .int .i64 y.v, .slice y.A y.n y.c, .int .i64 y.v', .slice y.A' y.n' y.c', .bool b2] 65)).alloc (.cells #[.slice none 0 0, .int .i64 0, .slice none 0 0, .int .i64 0, .slice none 0 0, .bool false] 65)).heap[w.heap.size + 1]? = some (.cells #[.slice A2 n c2, .int .i64 y.v, .slice y.A y.n y.c, .int .i64 y.v', .slice y.A' y.n' y.c', .bool b2] 65 (0, 0)) := blk_alloc (blk_at _ (by simp)) _
  have a3 : (((w.alloc (.cells #[.slice A n c, .int .i64 x.v, .slice x.A x.n x.c, .int .i64 x.v', .slice x.A' x.n' x.c', .bool b] 65)).alloc (.cells #[.slice A2 n c2, .int .i64 y.v, .slice y.A y.n y.c, .int .i64 y.v', .slice y.A' y.n' y.c', .bool b2] 65)).alloc (.cells #[.slice none 0 0, .int .i64 0, .slice none 0 0, .int .i64 0, .slice none 0 0, .bool false] 65)).heap[w.heap.size + 1 + 1]? = some (.cells #[.slice none 0 0, .int .i64 0, .slice none 0 0, .int .i64 0, .slice none 0 0, .bool false] 65 (0, 0)) := blk_at _ (by simp)
  replace hx := hx.below B0
  replace hy := hy.below B0
  generalize ((w.alloc (.cells #[.slice A n c, .int .i64 x.v, .slice x.A x.n x.c, .int .i64 x.v', .slice x.A' x.n' x.c', .bool b] 65)).alloc (.cells #[.slice A2 n c2, .int .i64 y.v, .slice y.A y.n y.c, .int .i64 y.v', .slice y.A' y.n' y.c', .bool b2] 65)).alloc (.cells #[.slice none 0 0, .int .i64 0, .slice none 0 0, .int .i64 0, .slice none 0 0, .bool false] 65) = W0 at *
  obtain ⟨cs, hcs, qm⟩ := made_q n hn
  have hx0 : RatV W0 x.v x.A x.n x.c x.v' x.A' x.n' x.c' r.2 := hx
  have hy0 : RatV W0 y.v y.A y.n y.c y.v' y.A' y.n' y.c' s.2 := hy
  go_cut [5, 11] (fun p p11 wc => ∃ (gs go : Nat) (v5 : Int) (A5 : Option Addr) (n5 c5 : Nat) (v5' : Int) (A5' : Option Addr) (n5' c5' : Nat), p = .pointer (some ⟨go, 0, none⟩) ∧ p11 = .slice (some ⟨gs, 0, none⟩) n n ∧ OwnQ wc w.heap.size gs n n (List.replicate n 0) ∧ wc.heap[go]? = some (.cells #[.slice (some ⟨gs, 0, none⟩) n n, .int .i64 v5, .slice A5 n5 c5, .int .i64 v5', .slice A5' n5' c5', .bool b] 65 (0, 0)) ∧ RatV wc v5 A5 n5 c5 v5' A5' n5' c5' (r.2 + s.2) ∧ wc.heap[w.heap.size]? = some (.cells #[.slice A n c, .int .i64 x.v, .slice x.A x.n x.c, .int .i64 x.v', .slice x.A' x.n' x.c', .bool b] 65 (0, 0)) ∧ wc.heap[w.heap.size + 1]? = some (.cells #[.slice A2 n c2, .int .i64 y.v, .slice y.A y.n y.c, .int .i64 y.v', .slice y.A' y.n' y.c', .bool b2] 65 (0, 0)) ∧ wc.heap[w.heap.size + 1 + 1]? = some (.cells #[.slice none 0 0, .int .i64 0, .slice none 0 0, .int .i64 0, .slice none 0 0, .bool false] 65 (0, 0)) ∧ Below w.heap.size w wc ∧ w.heap.size + 1 + 1 < gs ∧ w.heap.size + 1 + 1 < go ∧ gs ≠ go)
  case first =>
    have lw : w.heap.size ≤ W0.heap.size := by have := blk_lt a1; omega
    have l3 := blk_lt a3
    have a1_0 := a1
    have a2_0 := a2
    have a3_0 := a3
    have HB_0 := B0
    go_region_held3 (fun W => W.cell? ⟨w.heap.size, 0, none⟩ = some (Value.slice A n c) ∧ W.cell? ⟨w.heap.size, 1, none⟩ = some (Value.int .i64 x.v) ∧ W.cell? ⟨w.heap.size, 2, none⟩ = some (Value.slice x.A x.n x.c) ∧ W.cell? ⟨w.heap.size, 3, none⟩ = some (Value.int .i64 x.v') ∧ W.cell? ⟨w.heap.size, 4, none⟩ = some (Value.slice x.A' x.n' x.c') ∧ W.cell? ⟨w.heap.size, 5, none⟩ = some (Value.bool b) ∧ W.cell? ⟨w.heap.size + 1, 0, none⟩ = some (Value.slice A2 n c2) ∧ W.cell? ⟨w.heap.size + 1, 1, none⟩ = some (Value.int .i64 y.v) ∧ W.cell? ⟨w.heap.size + 1, 2, none⟩ = some (Value.slice y.A y.n y.c) ∧ W.cell? ⟨w.heap.size + 1, 3, none⟩ = some (Value.int .i64 y.v') ∧ W.cell? ⟨w.heap.size + 1, 4, none⟩ = some (Value.slice y.A' y.n' y.c') ∧ W.cell? ⟨w.heap.size + 1, 5, none⟩ = some (Value.bool b2)) (first | (refine qj6 (qx6 (t := 65) ?_) (qx6 (t := 65) ?_) <;> (repeat (first | with_reducible exact a1_1 | with_reducible exact a1_0 | with_reducible exact a2_1 | with_reducible exact a2_0 | with_reducible refine blk_alloc ?_ _ | with_reducible refine blk_drew ?_ | with_reducible refine q6_far ?_ ?_ _ _ _ _ _ _ | with_reducible refine q4_far ?_ ?_ _ _ _ _ | with_reducible refine At4.dr ?_ | with_reducible refine At4.st4 ?_ ?_ _ _ _ _ | omega)); done) | go_keep) (first | (go_at_call 55; refine (radd_calls x.v x.A x.n x.c x.v' x.A' x.n' x.c' r.2 y.v y.A y.n y.c y.v' y.A' y.n' y.c' s.2 _ (by repeat (first | with_reducible exact hx0 | with_reducible refine RatV.al ?_ _ | with_reducible refine RatV.dr ?_)) (by repeat (first | with_reducible exact hy0 | with_reducible refine RatV.al ?_ _ | with_reducible refine RatV.dr ?_)) k s1.2 s2.2 hk).mono ?_; rintro e ww ⟨⟨v5, A5, n5, c5, v5', A5', n5', c5', rfl, t5⟩, hB5⟩; have a1_1 : ww.heap[w.heap.size]? = some (.cells #[.slice A n c, .int .i64 x.v, .slice x.A x.n x.c, .int .i64 x.v', .slice x.A' x.n' x.c', .bool b] 65 (0, 0)) := (by repeat (first | with_reducible exact a1_0 | with_reducible refine blk_below ?_ hB5 | with_reducible refine blk_alloc ?_ _ | with_reducible refine blk_drew ?_)); have a2_1 : ww.heap[w.heap.size + 1]? = some (.cells #[.slice A2 n c2, .int .i64 y.v, .slice y.A y.n y.c, .int .i64 y.v', .slice y.A' y.n' y.c', .bool b2] 65 (0, 0)) := (by repeat (first | with_reducible exact a2_0 | with_reducible refine blk_below ?_ hB5 | with_reducible refine blk_alloc ?_ _ | with_reducible refine blk_drew ?_)); have a3_1 : ww.heap[w.heap.size + 1 + 1]? = some (.cells #[.slice none 0 0, .int .i64 0, .slice none 0 0, .int .i64 0, .slice none 0 0, .bool false] 65 (0, 0)) := (by repeat (first | with_reducible exact a3_0 | with_reducible refine blk_below ?_ hB5 | with_reducible refine blk_alloc ?_ _ | with_reducible refine blk_drew ?_)); have HB_1 : Below w.heap.size w ww := (by repeat (first | with_reducible exact HB_0 | with_reducible refine bl_then ?_ hB5 | with_reducible refine bl_alloc ?_ _ | with_reducible refine bl_drew ?_)); have l4 := blk_lt a3_1; (first  | (have EM : OwnQ ww w.heap.size W0.heap.size n n (List.replicate n 0) := OwnQ.below (OwnQ.drew (OwnQ.made_at n rfl lw hn cs hcs)) hB5; have lM := EM.ge.2; have EX := q6 (blk_at (W := ww) (.cells #[.slice none 0 0, .int .i64 0, .slice none 0 0, .int .i64 0, .slice none 0 0, .bool false] 65) rfl); obtain ⟨⟨e1, e2, e3, e4, e5, e6⟩, e7, e8, e9, e10, e11, e12⟩ := EX)  | (have EM : OwnQ ww w.heap.size W0.heap.size n n (List.replicate n 0) := OwnQ.below (OwnQ.drew (OwnQ.alloc (OwnQ.made_at n rfl lw hn cs hcs) _)) hB5; have EA : ww.heap[W0.heap.size + 1]? = some (.cells #[.slice none 0 0, .int .i64 0, .slice none 0 0, .int .i64 0, .slice none 0 0, .bool false] 65 (0, 0)) := blk_below (blk_drew (blk_at _ (by simp))) hB5; have lA := blk_lt EA; (try have lM := EM.ge.2); have EX := q6 EA; obtain ⟨⟨e1, e2, e3, e4, e5, e6⟩, e7, e8, e9, e10, e11, e12⟩ := EX)  | (have EM : OwnQ ww w.heap.size (W0.heap.size + 1) n n (List.replicate n 0) := OwnQ.below (OwnQ.drew (OwnQ.made_at (W := W0.alloc (.cells #[.slice none 0 0, .int .i64 0, .slice none 0 0, .int .i64 0, .slice none 0 0, .bool false] 65)) n (by simp) (by simp; omega) hn cs hcs)) hB5; have EA : ww.heap[W0.heap.size]? = some (.cells #[.slice none 0 0, .int .i64 0, .slice none 0 0, .int .i64 0, .slice none 0 0, .bool false] 65 (0, 0)) := blk_below (blk_drew (blk_alloc (blk_at _ rfl) _)) hB5; have lA := blk_lt EA; (try have lM := EM.ge.2); have EX := q6 EA; obtain ⟨⟨e1, e2, e3, e4, e5, e6⟩, e7, e8, e9, e10, e11, e12⟩ := EX)  | (have EA : ww.heap[W0.heap.size]? = some (.cells #[.slice none 0 0, .int .i64 0, .slice none 0 0, .int .i64 0, .slice none 0 0, .bool false] 65 (0, 0)) := blk_below (blk_drew (blk_at _ rfl)) hB5; have lA := blk_lt EA; (try have lM := EM.ge.2); have EX := q6 EA; obtain ⟨⟨e1, e2, e3, e4, e5, e6⟩, e7, e8, e9, e10, e11, e12⟩ := EX; have EY := q6 (blk_alloc EA (.cells cs 63)); obtain ⟨⟨i1, i2, i3, i4, i5, i6⟩, i7, i8, i9, i10, i11, i12⟩ := EY)  | (have EX := q6 (blk_alloc (blk_at (W := ww) (.cells #[.slice none 0 0, .int .i64 0, .slice none 0 0, .int .i64 0, .slice none 0 0, .bool false] 65) rfl) (.cells cs 63)); obtain ⟨⟨e1, e2, e3, e4, e5, e6⟩, e7, e8, e9, e10, e11, e12⟩ := EX))) | fail)
    all_goals
      go_wp2
      go_meet
      case rel =>
        refine ⟨_, _, v5, A5, n5, c5, v5', A5', n5', c5', rfl, rfl, ?_, ?_, ?_, ?_, ?_, ?_, ?_, ?_, ?_, ?_⟩
        · first
            | with_reducible exact OwnQ.alloc (OwnQ.made_at n rfl (by omega) hn cs hcs) _
            | with_reducible exact OwnQ.alloc EM _
            | with_reducible exact OwnQ.st6 EM EA (by omega) _ _ _ _ _ _
            | with_reducible exact OwnQ.made_at n (by simp) (by simp; omega) hn cs hcs
        · first
            | with_reducible exact q6_set EA _ _ _ _ _ _
            | with_reducible exact blk_alloc (q6_set EA _ _ _ _ _ _) _
            | with_reducible exact blk_alloc (blk_at _ rfl) _
            | with_reducible exact blk_at _ (by first | rfl | simp)
        · first
            | with_reducible exact RatV.al t5 _
            | with_reducible exact RatV.al (RatV.al t5 _) _
            | with_reducible exact RV.st6 t5 EA _ _ _ _ _ _
            | with_reducible exact RatV.al (RV.st6 t5 EA _ _ _ _ _ _) _
        · repeat (first | with_reducible exact a1_1 | with_reducible refine blk_alloc ?_ _ | with_reducible refine q6_far ?_ ?_ _ _ _ _ _ _ | omega)
        · repeat (first | with_reducible exact a2_1 | with_reducible refine blk_alloc ?_ _ | with_reducible refine q6_far ?_ ?_ _ _ _ _ _ _ | omega)
        · repeat (first | with_reducible exact a3_1 | with_reducible refine blk_alloc ?_ _ | with_reducible refine q6_far ?_ ?_ _ _ _ _ _ _ | omega)
        · repeat (first | with_reducible exact HB_1 | with_reducible refine bl_alloc ?_ _ | with_reducible refine q6_bl ?_ ?_ _ _ _ _ _ _ | omega)
        · omega
        · omega
        · omega
  case rest =>
    clear a1 a2 a3 B0 hx hy hx0 hy0
    obtain ⟨gs, go, v5, A5, n5, c5, v5', A5', n5', c5', rfl, rfl, OQ, a4, T5, a1, a2, a3, B0, lgs, lgo, hne⟩ := hcut
    have hng := upto_zero (fun j => r.1.getD j 0 + s.1.getD j 0) n
    rw [hng] at OQ
    clear hng
    obtain ⟨⟨f1, f2, f3, f4, f5, f6⟩, f7⟩ := q6 a1
    go_wp2_with fail
    clear f1 f2 f3 f4 f5 f6 f7
    go_loopw [23] (fun i wr => ∃ kk : Nat, kk ≤ n ∧ i = .int .i64 kk ∧ OwnQ wr w.heap.size gs n n (upto (fun j => r.1.getD j 0 + s.1.getD j 0) n kk) ∧ wr.heap[go]? = some (.cells #[.slice (some ⟨gs, 0, none⟩) n n, .int .i64 v5, .slice A5 n5 c5, .int .i64 v5', .slice A5' n5' c5', .bool b] 65 (0, 0)) ∧ RatV wr v5 A5 n5 c5 v5' A5' n5' c5' (r.2 + s.2) ∧ wr.heap[w.heap.size]? = some (.cells #[.slice A n c, .int .i64 x.v, .slice x.A x.n x.c, .int .i64 x.v', .slice x.A' x.n' x.c', .bool b] 65 (0, 0)) ∧ wr.heap[w.heap.size + 1]? = some (.cells #[.slice A2 n c2, .int .i64 y.v, .slice y.A y.n y.c, .int .i64 y.v', .slice y.A' y.n' y.c', .bool b2] 65 (0, 0)) ∧ wr.heap[w.heap.size + 1 + 1]? = some (.cells #[.slice none 0 0, .int .i64 0, .slice none 0 0, .int .i64 0, .slice none 0 0, .bool false] 65 (0, 0)) ∧ Below w.heap.size w wr ∧ w.heap.size + 1 + 1 < gs ∧ w.heap.size + 1 + 1 < go ∧ gs ≠ go) (fun i _ => n - (intOf i).toNat)
    case atStart => exact ⟨0, Nat.zero_le _, rfl, OQ, a4, T5, a1, a2, a3, B0, lgs, lgo, hne⟩
    case round =>
      clear OQ a4 T5 a1 a2 a3 B0 lgs lgo
      obtain ⟨kk, hkk, rfl, OQ, a4, T5, a1, a2, a3, B0, lgs, lgo, _⟩ := hrel
      by_cases hlt : kk < n
      · obtain ⟨g, off, rfl, hg, hc⟩ := (hq.below B0).2.2.1 (by omega)
        obtain ⟨z, ⟨p1, p2, p3, p4⟩, hz⟩ := hc kk hlt
        obtain ⟨g2, off2, rfl, hg2, hc2⟩ := (hq2.below B0).2.2.1 (by omega)
        obtain ⟨g2', off2', e2', hgw2, _⟩ := hq2.2.2.1 (by omega)
        obtain ⟨z2, aq, hz2⟩ := hc2 kk hlt
        have lgw : g2 < w.heap.size := by injection e2' with e2'; injection e2' with e2' _ _; rw [e2']; exact hgw2
        clear hc hq hc2 hq2 e2' hgw2
        have hk0 : (0 : Int) ≤ (kk : Int) := by omega
        have hkn : (kk : Int) < (n : Int) := by omega
        have lw4 := blk_lt a4
        have lws := OQ.ge.2
        go_upto_region 5 with (fail)
        have a5 : (wr.alloc (.cells #[.int .i64 z.v, .slice z.A z.n z.c, .int .i64 z.v', .slice z.A' z.n' z.c'] 63)).heap[wr.heap.size]? = some (.cells #[.int .i64 z.v, .slice z.A z.n z.c, .int .i64 z.v', .slice z.A' z.n' z.c'] 63 (0, 0)) := blk_at _ rfl
        replace a4 := blk_alloc a4 (.cells #[.int .i64 z.v, .slice z.A z.n z.c, .int .i64 z.v', .slice z.A' z.n' z.c'] 63)
        replace a1 := blk_alloc a1 (.cells #[.int .i64 z.v, .slice z.A z.n z.c, .int .i64 z.v', .slice z.A' z.n' z.c'] 63)
        replace a2 := blk_alloc a2 (.cells #[.int .i64 z.v, .slice z.A z.n z.c, .int .i64 z.v', .slice z.A' z.n' z.c'] 63)
        replace a3 := blk_alloc a3 (.cells #[.int .i64 z.v, .slice z.A z.n z.c, .int .i64 z.v', .slice z.A' z.n' z.c'] 63)
        replace B0 := bl_alloc B0 (.cells #[.int .i64 z.v, .slice z.A z.n z.c, .int .i64 z.v', .slice z.A' z.n' z.c'] 63)
        replace T5 := RatV.al T5 (.cells #[.int .i64 z.v, .slice z.A z.n z.c, .int .i64 z.v', .slice z.A' z.n' z.c'] 63)
        replace OQ := OQ.alloc (.cells #[.int .i64 z.v, .slice z.A z.n z.c, .int .i64 z.v', .slice z.A' z.n' z.c'] 63)
        replace hz : RatV (wr.alloc (.cells #[.int .i64 z.v, .slice z.A z.n z.c, .int .i64 z.v', .slice z.A' z.n' z.c'] 63)) z.v z.A z.n z.c z.v' z.A' z.n' z.c' (r.1.getD kk 0) := RatV.al hz (.cells #[.int .i64 z.v, .slice z.A z.n z.c, .int .i64 z.v', .slice z.A' z.n' z.c'] 63)
        replace hz2 : RatV (wr.alloc (.cells #[.int .i64 z.v, .slice z.A z.n z.c, .int .i64 z.v', .slice z.A' z.n' z.c'] 63)) z2.v z2.A z2.n z2.c z2.v' z2.A' z2.n' z2.c' (s.1.getD kk 0) := RatV.al hz2 (.cells #[.int .i64 z.v, .slice z.A z.n z.c, .int .i64 z.v', .slice z.A' z.n' z.c'] 63)
        replace aq := At4.al aq hg2 (.cells #[.int .i64 z.v, .slice z.A z.n z.c, .int .i64 z.v', .slice z.A' z.n' z.c'] 63)
        have lq2 : g2 < (wr.alloc (.cells #[.int .i64 z.v, .slice z.A z.n z.c, .int .i64 z.v', .slice z.A' z.n' z.c'] 63)).heap.size := by simp; omega
        have hne2 : g2 ≠ gs := by have := OQ.ge.1; omega
        clear p1 p2 p3 p4 hg hg2
        generalize hg9 : wr.heap.size = g9 at *
        generalize wr.alloc (.cells #[.int .i64 z.v, .slice z.A z.n z.c, .int .i64 z.v', .slice z.A' z.n' z.c'] 63) = W9 at *
        clear hg9
        have a1_0 := a1
        have a2_0 := a2
        have a3_0 := a3
        have a4_0 := a4
        have a5_0 := a5
        have HB_0 := B0
        have aq_0 := aq
        go_region_held3 (fun W => W.cell? ⟨go, 0, none⟩ = some (Value.slice (some ⟨gs, 0, none⟩) n n) ∧ W.cell? ⟨go, 1, none⟩ = some (Value.int .i64 v5) ∧ W.cell? ⟨go, 2, none⟩ = some (Value.slice A5 n5 c5) ∧ W.cell? ⟨go, 3, none⟩ = some (Value.int .i64 v5') ∧ W.cell? ⟨go, 4, none⟩ = some (Value.slice A5' n5' c5') ∧ W.cell? ⟨go, 5, none⟩ = some (Value.bool b) ∧ W.cell? ⟨g9, 0, none⟩ = some (Value.int .i64 z.v) ∧ W.cell? ⟨g9, 1, none⟩ = some (Value.slice z.A z.n z.c) ∧ W.cell? ⟨g9, 2, none⟩ = some (Value.int .i64 z.v') ∧ W.cell? ⟨g9, 3, none⟩ = some (Value.slice z.A' z.n' z.c') ∧ W.cell? ⟨w.heap.size + 1, 0, none⟩ = some (Value.slice (some ⟨g2, off2, none⟩) n c2) ∧ W.cell? ⟨w.heap.size + 1, 1, none⟩ = some (Value.int .i64 y.v) ∧ W.cell? ⟨w.heap.size + 1, 2, none⟩ = some (Value.slice y.A y.n y.c) ∧ W.cell? ⟨w.heap.size + 1, 3, none⟩ = some (Value.int .i64 y.v') ∧ W.cell? ⟨w.heap.size + 1, 4, none⟩ = some (Value.slice y.A' y.n' y.c') ∧ W.cell? ⟨w.heap.size + 1, 5, none⟩ = some (Value.bool b2) ∧ W.cell? ⟨g2, off2 + kk * 4, none⟩ = some (Value.int .i64 z2.v) ∧ W.cell? ⟨g2, off2 + kk * 4 + 1, none⟩ = some (Value.slice z2.A z2.n z2.c) ∧ W.cell? ⟨g2, off2 + kk * 4 + 2, none⟩ = some (Value.int .i64 z2.v') ∧ W.cell? ⟨g2, off2 + kk * 4 + 3, none⟩ = some (Value.slice z2.A' z2.n' z2.c')) (first | (refine qj6 (qx6 (t := 65) ?_) (qj4 (qx4 (t := 63) ?_) (qj6 (qx6 (t := 65) ?_) (at4c ?_))) <;> (repeat (first | with_reducible exact a4_1 | with_reducible exact a4_0 | with_reducible exact a5_1 | with_reducible exact a5_0 | with_reducible exact a2_1 | with_reducible exact a2_0 | with_reducible exact aq_1 | with_reducible exact aq_0 | with_reducible refine blk_alloc ?_ _ | with_reducible refine blk_drew ?_ | with_reducible refine q6_far ?_ ?_ _ _ _ _ _ _ | with_reducible refine q4_far ?_ ?_ _ _ _ _ | with_reducible refine At4.dr ?_ | with_reducible refine At4.st4 ?_ ?_ _ _ _ _ | omega)); done) | go_keep) (first | (go_at_call 55; refine (radd_calls z.v z.A z.n z.c z.v' z.A' z.n' z.c' (r.1.getD kk 0) z2.v z2.A z2.n z2.c z2.v' z2.A' z2.n' z2.c' (s.1.getD kk 0) _ (by repeat (first | with_reducible exact hz | with_reducible refine RatV.al ?_ _ | with_reducible refine RatV.dr ?_)) (by repeat (first | with_reducible exact hz2 | with_reducible refine RatV.al ?_ _ | with_reducible refine RatV.dr ?_)) k (s1.1 kk) (s2.1 kk) hk).mono ?_; rintro e ww ⟨⟨v6, A6, n6, c6, v6', A6', n6', c6', rfl, t6⟩, hB6⟩; have a4_1 : ww.heap[go]? = some (.cells #[.slice (some ⟨gs, 0, none⟩) n n, .int .i64 v5, .slice A5 n5 c5, .int .i64 v5', .slice A5' n5' c5', .bool b] 65 (0, 0)) := (by repeat (first | with_reducible exact a4_0 | with_reducible refine blk_below ?_ hB6 | with_reducible refine blk_alloc ?_ _ | with_reducible refine blk_drew ?_)); have a5_1 : ww.heap[g9]? = some (.cells #[.int .i64 z.v, .slice z.A z.n z.c, .int .i64 z.v', .slice z.A' z.n' z.c'] 63 (0, 0)) := (by repeat (first | with_reducible exact a5_0 | with_reducible refine blk_below ?_ hB6 | with_reducible refine blk_alloc ?_ _ | with_reducible refine blk_drew ?_)); have a2_1 : ww.heap[w.heap.size + 1]? = some (.cells #[.slice (some ⟨g2, off2, none⟩) n c2, .int .i64 y.v, .slice y.A y.n y.c, .int .i64 y.v', .slice y.A' y.n' y.c', .bool b2] 65 (0, 0)) := (by repeat (first | with_reducible exact a2_0 | with_reducible refine blk_below ?_ hB6 | with_reducible refine blk_alloc ?_ _ | with_reducible refine blk_drew ?_)); have a1_1 : ww.heap[w.heap.size]? = some (.cells #[.slice (some ⟨g, off, none⟩) n c, .int .i64 x.v, .slice x.A x.n x.c, .int .i64 x.v', .slice x.A' x.n' x.c', .bool b] 65 (0, 0)) := (by repeat (first | with_reducible exact a1_0 | with_reducible refine blk_below ?_ hB6 | with_reducible refine blk_alloc ?_ _ | with_reducible refine blk_drew ?_)); have a3_1 : ww.heap[w.heap.size + 1 + 1]? = some (.cells #[.slice none 0 0, .int .i64 0, .slice none 0 0, .int .i64 0, .slice none 0 0, .bool false] 65 (0, 0)) := (by repeat (first | with_reducible exact a3_0 | with_reducible refine blk_below ?_ hB6 | with_reducible refine blk_alloc ?_ _ | with_reducible refine blk_drew ?_)); have HB_1 : Below w.heap.size w ww := (by repeat (first | with_reducible exact HB_0 | with_reducible refine bl_then ?_ hB6 | with_reducible refine bl_alloc ?_ _ | with_reducible refine bl_drew ?_)); have T5_1 := (by first | exact RatV.below T5 hB6 | exact RatV.below (RatV.dr T5) hB6); have OQ_1 := (by first | exact OwnQ.below OQ hB6 | exact OwnQ.below (OwnQ.drew OQ) hB6); have OX := OQ_1.at kk hlt; obtain ⟨z1, ⟨o1, o2, o3, o4⟩, _⟩ := OX; have o5 := OQ_1.frozen (kk * 4); have o6 := OQ_1.frozen (kk * 4 + 1); have o7 := OQ_1.frozen (kk * 4 + 2); have o8 := OQ_1.frozen (kk * 4 + 3); have lg := OQ_1.ge.2; have aq_1 : At4 ww g2 (off2 + kk * 4) z2 := (by first | exact At4.below aq_0 lq2 hB6 | exact At4.below (At4.dr aq_0) lq2 hB6)) | fail)
        all_goals
          have U1 := Lib.hid (OwnQ.set OQ_1 HB_1 (Nat.le_refl _) kk hlt _ _ _ _ _ _ _ _ _ t6)
          have U2 := OQ_1.blk
          obtain ⟨cs9, U3⟩ := U2
          go_wp2
          go_roundw
          case rel =>
            refine ⟨kk + 1, hlt, by go_num, ?_, ?_, ?_, ?_, ?_, ?_, U1.out.2, lgs, lgo, hne⟩
            · have h9 := U1.out.1
              rw [upto_set (fun j => r.1.getD j 0 + s.1.getD j 0) n kk hlt] at h9
              exact h9
            · exact q4_far a4_1 (by omega) _ _ _ _
            · exact RV.st4 T5_1 U3 _ _ _ _
            · exact q4_far a1_1 (by omega) _ _ _ _
            · exact q4_far a2_1 (by omega) _ _ _ _
            · exact q4_far a3_1 (by omega) _ _ _ _
          case measure => simp [intOf]; omega
      · have hkn : kk = n := by omega
        subst hkn
        rw [upto_full (fun j => r.1.getD j 0 + s.1.getD j 0) kk (pls r s).1 (by rw [pls_len r s (by rw [LN2.out, LN.out])]; exact LN.out) (fun j hj => pls_at r s (by rw [LN2.out, LN.out]) j (by rw [LN.out]; exact hj))] at OQ
        obtain ⟨⟨f1, f2, f3, f4, f5, f6⟩, f7⟩ := q6 a4
        obtain ⟨⟨m1, m2, m3, m4, m5, m6⟩, m7⟩ := q6 a3
        have U1 := q6_set a3 (.slice (some ⟨gs, 0, none⟩) kk kk) (.int .i64 v5) (.slice A5 n5 c5) (.int .i64 v5') (.slice A5' n5' c5') (.bool b)
        have U2 := OQ.st6 a3 (by omega) (.slice (some ⟨gs, 0, none⟩) kk kk) (.int .i64 v5) (.slice A5 n5 c5) (.int .i64 v5') (.slice A5' n5' c5') (.bool b)
        have U3 := RV.st6 T5 a3 (.slice (some ⟨gs, 0, none⟩) kk kk) (.int .i64 v5) (.slice A5 n5 c5) (.int .i64 v5') (.slice A5' n5' c5') (.bool b)
        have U4 := q6_bl B0 (show w.heap.size ≤ w.heap.size + 1 + 1 by omega) (.slice (some ⟨gs, 0, none⟩) kk kk) (.int .i64 v5) (.slice A5 n5 c5) (.int .i64 v5') (.slice A5' n5' c5') (.bool b)
        go_wp2
        refine bodyPost_ret (results_cell_row rfl _ _ (w.heap.size + 1 + 1) 65 #[.slice (some ⟨gs, 0, none⟩) kk kk, .int .i64 v5, .slice A5 n5 c5, .int .i64 v5', .slice A5' n5' c5', .bool b] (0, 0) _ rfl U1 Try.underlying65 rfl (by kernel_rfl)) rfl ?_
        exact ⟨⟨_, kk, kk, ⟨v5, A5, n5, c5, v5', A5', n5', c5'⟩, rfl, OwnQ.rd U2 hn, U3⟩, U4⟩
end Go.Proofs.Ytjmbpeniibdnoaa

namespace Go.Proofs.Ytjmbpeniibdnoaa
open Go
section
variable {P : Program} {md : Region.Mode} {ops : Array Oper} {Q : Exit → Act → World → Prop} {S : World → Prop}

/-- As wpAnyH, but S is asked only while the operation n has not come up. -/
def wpT (P : Program) (md : Region.Mode) (ops : Array Oper) (n : Nat) (Q : Exit → Act → World → Prop) (S : World → Prop) : Nat → Array Bool → Act → World → Prop
  | 0, listed, a, w => Region.ready md ops listed = [] ∧ Q .normal a w
  | fuel + 1, listed, a, w =>
    (Region.ready md ops listed = [] → Q .normal a w) ∧
    ∀ i ∈ Region.ready md ops listed, wpOp P ops Q i (fun a' w' => (i ≠ n → S w') ∧ wpT P md ops n Q S fuel (listed.setIfInBounds i true) a' w') a w
theorem wpAny_of_T {n : Nat} : ∀ (fuel : Nat) (listed : Array Bool) (a : Act) (w : World), wpT P md ops n Q S fuel listed a w → wpAny P md ops Q fuel listed a w
  | 0, _, _, _, h => h
  | fuel + 1, _, _, _, h => ⟨h.1, fun i hi => wpOp_mono (fun a' w' h' => wpAny_of_T fuel _ a' w' h'.2) (h.2 i hi)⟩
theorem wpT_first {n i : Nat} {oi : Oper} {v : Value} (hin : i ≠ n) (hw : Region.waitsFor md ops n i = true) (hi : ops[i]? = some oi) (hsel : ∀ (j : Nat) (o : Oper) cs b, ops[j]? = some o → o.op ≠ .select cs b)
    (hQ : ∀ c a w, Q (.panic c) (a.put oi.dst v) w → Q (.panic c) a w) :
    ∀ (fuel : Nat) (listed : Array Bool) (a : Act) (w : World),
      (∀ j oj, ops[j]? = some oj → j ≠ i → listed.getD j true = false → (∀ e ∈ oj.after, Region.binds md e = true → e.on ≠ i) → oi.apart ops oj = true) →
      i ∈ Region.ready md ops listed → YieldsIf P ops S oi v a → S w →
      wpT P md ops n Q S fuel (listed.setIfInBounds i true) (a.put oi.dst v) w → wpT P md ops n Q S (fuel + 1) listed a w := by
  intro fuel
  induction fuel with
  | zero =>
    intro listed a w _ hr hy hS H
    refine ⟨fun h => (by rw [h] at hr; cases hr), fun j hj => ?_⟩
    by_cases hji : j = i
    · subst hji; exact hy.wpOp hi hS ⟨fun _ => hS, H⟩
    · have h2 := ready_mono hj hji
      rw [H.1] at h2
      cases h2
  | succ fuel ih =>
    intro listed a w hfree hr hy hS H
    refine ⟨fun h => (by rw [h] at hr; cases hr), fun j hj => ?_⟩
    by_cases hji : j = i
    · subst hji; exact hy.wpOp hi hS ⟨fun _ => hS, H⟩
    · have h1 := H.2 j (ready_mono hj hji)
      obtain ⟨hjun, oj, hoj, hall⟩ := mem_ready.1 hj
      have h0 := (mem_ready.1 hr).1
      have hun : listed.getD i false = false := getD_both h0
      have hnot : ∀ e ∈ oj.after, Region.binds md e = true → e.on ≠ i := fun e he hb heq => by
        have h3 := hall e he hb
        rw [heq, hun] at h3
        cases h3
      have hjn : j ≠ n := by
        rintro rfl
        obtain ⟨o', ho', e, he, hb, hon⟩ := Region.waitsFor_spec hw
        have : o' = oj := Option.some.inj (ho'.symm.trans hoj)
        subst this
        exact hnot e he hb hon
      have h2 := wpOp_putIf hoj (hfree j oj hoj hji hjun hnot) (fun cs b => hsel i oi cs b hi) (fun cs b => hsel j oj cs b hoj) hQ hy h1
      refine wpOp_mono (fun a' w' h3 => ⟨fun _ => h3.2.1 hjn, ih (listed.setIfInBounds j true) a' w' ?_ (ready_mono hr (Ne.symm hji)) h3.1 (h3.2.1 hjn) ?_⟩) h2
      · intro k ok hk hki hun2 hno
        refine hfree k ok hk hki ?_ hno
        by_cases hjk : j = k
        · subst hjk; exact hjun
        · rwa [_root_.Go.getD_set_ne true hjk] at hun2
      · rw [Array.setIfInBounds_comm _ _ hji]
        exact h3.2.2
/-- The moves: take a load first; the one operation that may come up; the end; the beginning. -/
theorem wpT_take {n i : Nat} {oi : Oper} {v : Value} {fuel : Nat} {listed : Array Bool} {a : Act} {w : World} (hin : i ≠ n) (hw : Region.waitsFor md ops n i = true) (hi : ops[i]? = some oi)
    (hs : Region.noSelect ops = true) (hf : Region.free md ops listed i = true) (hr : (Region.ready md ops listed).contains i = true)
    (hQ : ∀ c a w, Q (.panic c) (a.put oi.dst v) w → Q (.panic c) a w) (hy : YieldsIf P ops S oi v a) (hS : S w)
    (h : wpT P md ops n Q S fuel (listed.setIfInBounds i true) (a.put oi.dst v) w) : wpT P md ops n Q S (fuel + 1) listed a w :=
  wpT_first hin hw hi (Region.noSelect_spec hs) hQ fuel listed a w (Region.free_spec hi hf) (by simpa using hr) hy hS h
theorem wpT_one {n i : Nat} {o : Oper} {fuel : Nat} {listed : Array Bool} {a : Act} {w : World} (hr : Region.ready md ops listed = [i]) (ho : ops[i]? = some o)
    (h : ∀ K' : Act → World → Prop, Shut (∀ a w, (i ≠ n → S w) → (S w ∨ i = n → wpT P md ops n Q S fuel (listed.setIfInBounds i true) a w) → K' a w) → if Region.wanted o (yielded ops a.tmps) = true then Oper.wp P o a w K' Q else K' (a.put o.dst undef) w) :
    wpT P md ops n Q S (fuel + 1) listed a w := by
  refine ⟨fun h0 => (by rw [h0] at hr; cases hr), fun j hj => ?_⟩
  rw [hr, List.mem_singleton] at hj
  subst hj
  exact wpOp_step ho (fun K' hK => h K' (fun a w hS hW => hK a w ⟨hS, hW (by
    by_cases e : j = n
    · exact .inr e
    · exact .inl (hS e))⟩))
theorem wpT_done {n : Nat} {listed : Array Bool} {a : Act} {w : World} (hr : Region.ready md ops listed = []) (h : Q .normal a w) : ∀ fuel, wpT P md ops n Q S fuel listed a w
  | 0 => ⟨hr, h⟩
  | _ + 1 => ⟨fun _ => h, fun i hi => (by rw [hr] at hi; cases hi)⟩
theorem wp_region_T {n : Nat} {id : Nat} {a : Act} {w : World} (S : World → Prop) (hm : P.follows .mixedOrders = true)
    (h : wpT P .any ops n Q S ops.size (Array.replicate ops.size false) a w.drew) : (Code.region id ops true).wp P Q a w :=
  wp_region_any hm (wpAny_of_T _ _ _ _ h)
end
end Go.Proofs.Ytjmbpeniibdnoaa

namespace Go.Proofs.Ytjmbpeniibdnoaa
open Go.RowKit

theorem RwV.st6 {w : World} {A : Option Addr} {n : Nat} {x : RC} {r : Rw} {g : Nat} {a1 a2 a3 a4 a5 a6 : Value} (h : RwV w A n x r) (hb : w.heap[g]? = some (.cells #[a1, a2, a3, a4, a5, a6] 65 (0, 0))) (x1 x2 x3 x4 x5 x6 : Value) :
    RwV ((((((w.setCell ⟨g, 0, none⟩ x1).setCell ⟨g, 1, none⟩ x2).setCell ⟨g, 2, none⟩ x3).setCell ⟨g, 3, none⟩ x4).setCell ⟨g, 4, none⟩ x5).setCell ⟨g, 5, none⟩ x6) A n x r :=
  ⟨h.1.heap (q6_kp hb (by decide) x1 x2 x3 x4 x5 x6) (q6_kp hb (by decide) x1 x2 x3 x4 x5 x6), RV.st6 h.2 hb x1 x2 x3 x4 x5 x6⟩
/-- What the six cells of a row hold. -/
def At6 (w : World) (g o : Nat) (A : Option Addr) (n c : Nat) (x : RC) (b : Bool) : Prop := w.cell? ⟨g, o, none⟩ = some (.slice A n c) ∧ w.cell? ⟨g, o + 1, none⟩ = some (.int .i64 x.v) ∧ w.cell? ⟨g, o + 2, none⟩ = some (.slice x.A x.n x.c) ∧ w.cell? ⟨g, o + 3, none⟩ = some (.int .i64 x.v') ∧ w.cell? ⟨g, o + 4, none⟩ = some (.slice x.A' x.n' x.c') ∧ w.cell? ⟨g, o + 5, none⟩ = some (.bool b)
theorem At6.below {w w' : World} {g o : Nat} {A : Option Addr} {n c : Nat} {x : RC} {b : Bool} (h : At6 w g o A n c x b) (hg : g < w.heap.size) (hb : Below w.heap.size w w') : At6 w' g o A n c x b := by
  have k := (cells_below hb).1
  exact ⟨(k _ _ hg).trans h.1, (k _ _ hg).trans h.2.1, (k _ _ hg).trans h.2.2.1, (k _ _ hg).trans h.2.2.2.1, (k _ _ hg).trans h.2.2.2.2.1, (k _ _ hg).trans h.2.2.2.2.2⟩
/-- A slice of rows that is read. -/
def RdW (w : World) (A : Option Addr) (m : Nat) (R : List Rw) : Prop :=
  R.length = m ∧ m ≤ 1000000 ∧ (0 < m → ∃ g off, A = some ⟨g, off, none⟩ ∧ g < w.heap.size ∧ ∀ j, j < m → ∃ A' n c x b, At6 w g (off + j * 6) A' n c x b ∧ RwV w A' n x (R.getD j ([], 0)))
theorem RdW.below {w w' : World} {A : Option Addr} {m : Nat} {R : List Rw} (h : RdW w A m R) (hb : Below w.heap.size w w') : RdW w' A m R := by
  refine ⟨h.1, h.2.1, fun hn => ?_⟩
  obtain ⟨g, off, e, hg, hc⟩ := h.2.2 hn
  refine ⟨g, off, e, Nat.lt_of_lt_of_le hg hb.size, fun j hj => ?_⟩
  obtain ⟨A', n, c, x, b, h1, h2⟩ := hc j hj
  exact ⟨A', n, c, x, b, h1.below hg hb, h2.below hb⟩
theorem RdW.nil (w : World) (A : Option Addr) : RdW w A 0 [] := ⟨rfl, by omega, fun h => absurd h (by omega)⟩
theorem redF_snoc (R : List Rw) (q r : Rw) : redF (R ++ [q]) r = red1 q (redF R r) := by
  induction R generalizing r with
  | nil => rfl
  | cons p R ih => rw [List.cons_append, redF_cons, redF_cons, ih]
theorem redF_take (R : List Rw) (r : Rw) (t : Nat) (ht : t < R.length) : redF (R.take (t + 1)) r = red1 (R.getD t ([], 0)) (redF (R.take t) r) := by
  rw [List.take_add_one, List.getElem?_eq_getElem ht]
  show redF (R.take t ++ [R[t]]) r = _
  rw [redF_snoc, List.getD_eq_getElem?_getD, List.getElem?_eq_getElem ht]; rfl
theorem qsz_divInt {a : Nat} {x y : Int} (hy : y ≠ 0) (h1 : Sz a x) (h2 : Sz a y) : SzR a (Rat.divInt x y) := by
  refine ⟨h1.le ?_, h2.le ?_⟩
  · rw [divInt_num hy, Int.natAbs_mul]
    have h := tdiv_abs x (Int.gcd x y)
    have : y.sign.natAbs ≤ 1 := by
      rcases Int.lt_trichotomy y 0 with h | h | h
      · rw [Int.sign_eq_neg_one_of_neg h]; decide
      · rw [h]; decide
      · rw [Int.sign_eq_one_of_pos h]; decide
    exact Nat.le_trans (Nat.mul_le_mul_right _ this) (by omega)
  · rw [divInt_den hy, Int.natAbs_mul]
    have h := tdiv_abs y (Int.gcd x y)
    have : y.sign.natAbs ≤ 1 := by
      rcases Int.lt_trichotomy y 0 with h | h | h
      · rw [Int.sign_eq_neg_one_of_neg h]; decide
      · rw [h]; decide
      · rw [Int.sign_eq_one_of_pos h]; decide
    exact Nat.le_trans (Nat.mul_le_mul_right _ this) (by omega)
theorem qsz_add {a b : Nat} {q r : Rat} (h : SzR a q) (k : SzR b r) : SzR (a + b + 1) (q + r) := by
  have dq := q.den_pos
  have dr := r.den_pos
  rw [rat_add_eq]
  exact qsz_divInt (Int.mul_ne_zero (by omega) (by omega)) ((h.1.mul k.2).add ((k.1.mul h.2).mono (by omega))) ((h.2.mul k.2).mono (by omega))
theorem qsz_mul {a b : Nat} {q r : Rat} (h : SzR a q) (k : SzR b r) : SzR (a + b) (q * r) := by
  have dq := q.den_pos
  have dr := r.den_pos
  rw [rat_mul_eq]
  exact qsz_divInt (Int.mul_ne_zero (by omega) (by omega)) (h.1.mul k.1) (h.2.mul k.2)
theorem qsz_div {a b : Nat} {q r : Rat} (h : SzR a q) (k : SzR b r) (hr : r ≠ 0) : SzR (a + b) (q / r) := by
  have dq := q.den_pos
  have dr := r.den_pos
  have hn : r.num ≠ 0 := fun e => hr (Rat.num_eq_zero.1 e)
  rw [rat_div_eq]
  exact qsz_divInt (Int.mul_ne_zero (by omega) hn) (h.1.mul k.2) (h.2.mul k.1)
theorem szr_ge {k : Nat} {q : Rat} (h : SzR k q) : 1 ≤ k := by
  rcases Nat.eq_zero_or_pos k with h0 | h0
  · subst h0
    have h1 := h.2
    have h2 := q.den_pos
    unfold Sz at h1
    omega
  · exact h0
/-- The size of a row behind t steps of Reduce. -/
def kR (K J : Nat) : Nat → Nat
  | 0 => K
  | t + 1 => 2 * kR K J t + 3 * J + 8
theorem red1_sz {K J N : Nat} {q r : Rw} (hq : SzW J q) (hr : SzW K r) (h1 : q.1.length = N) (h2 : r.1.length = N) (hl : ldF q.1 < N) : SzW (2 * K + 3 * J + 8) (red1 q r) := by
  unfold red1
  split
  · exact ⟨fun j => (hr.1 j).mono (by omega), hr.2.mono (by omega)⟩
  · have h0 := ldF_ne q.1 (by omega)
    have hm : SzR (K + J) (-(r.1.getD (ldF q.1) 0 / q.1.getD (ldF q.1) 0)) := (qsz_div (hr.1 _) (hq.1 _) h0).neg
    generalize -(r.1.getD (ldF q.1) 0 / q.1.getD (ldF q.1) 0) = m at *
    refine ⟨fun j => ?_, ?_⟩
    · rcases Nat.lt_or_ge j N with hj | hj
      · have e := pls_at r (tms q m) (by rw [tms_len]; omega) j (by omega)
        rw [← e]
        have e2 : (tms q m).1.getD j 0 = q.1.getD j 0 * m := getD_map (· * m) q.1 j 0 0 (by omega)
        rw [e2]
        exact (qsz_add (hr.1 j) (qsz_mul (hq.1 j) hm)).mono (by omega)
      · rw [List.getD_eq_getElem?_getD, List.getElem?_eq_none (by rw [pls_len r _ (by rw [tms_len]; omega)]; omega)]
        exact (show SzR 1 (0 : Rat) from ⟨by show (0 : Int).natAbs < 2 ^ 1; decide, by show (1 : Int).natAbs < 2 ^ 1; decide⟩).mono (by omega)
    · exact (qsz_add hr.2 (qsz_mul hq.2 hm)).mono (by omega)
theorem redF_len {R : List Rw} {N : Nat} (hR : ∀ q ∈ R, q.1.length = N ∧ ldF q.1 < N) {r : Rw} (hr : r.1.length = N) (t : Nat) : (redF (R.take t) r).1.length = N :=
  red_len (fun q hq => (hR q (List.mem_of_mem_take hq)).1) hr
theorem redF_sz {R : List Rw} {N K J : Nat} (hR : ∀ q ∈ R, q.1.length = N ∧ ldF q.1 < N) (hJ : ∀ q ∈ R, SzW J q) {r : Rw} (hr : r.1.length = N) (hK : SzW K r) (t : Nat) (ht : t ≤ R.length) : SzW (kR K J t) (redF (R.take t) r) := by
  induction t with
  | zero => exact hK
  | succ t ih =>
    have hm : R.getD t ([], 0) ∈ R := by rw [List.getD_eq_getElem?_getD, List.getElem?_eq_getElem (by omega : t < R.length)]; exact List.getElem_mem (by omega)
    rw [redF_take R r t (by omega)]
    exact red1_sz (hJ _ hm) (ih (by omega)) (hR _ hm).1 (redF_len hR hr t) (hR _ hm).2
theorem kR_mono (K J : Nat) {t u : Nat} (h : t ≤ u) : kR K J t ≤ kR K J u := by
  induction u with
  | zero => rw [Nat.le_zero.1 h]; exact Nat.le_refl _
  | succ u ih =>
    rcases Nat.lt_or_ge t (u + 1) with h1 | h1
    · have := ih (by omega)
      show _ ≤ 2 * kR K J u + 3 * J + 8
      omega
    · have : t = u + 1 := by omega
      rw [this]; exact Nat.le_refl _

set_option maxHeartbeats 40000000 in
set_option maxRecDepth 100000 in
theorem reduce_calls (Am : Option Addr) (m cm : Nat) (R : List Rw) (A : Option Addr) (n c : Nat) (x : RC) (b : Bool) (r : Rw) (w : World) (hW : RdW w Am m R) (h : RwV w A n x r) (hR : ∀ q ∈ R, q.1.length = n ∧ ldF q.1 < n) (K J : Nat) (hJ : ∀ q ∈ R, SzW J q) (hK : SzW K r) (hk : kR K J m ≤ 1000000000) (hj : J ≤ 1000000000) :
    Calls Try.prog 66 #[.slice Am m cm, .agg #[.slice A n c, .int .i64 x.v, .slice x.A x.n x.c, .int .i64 x.v', .slice x.A' x.n' x.c', .bool b]] w fun e w' => RowR e w' b (redF R r) ∧ Below w.heap.size w w' := by
  have LM := Lib.hid hW.1
  have LN := Lib.hid h.1.1
  have hm := hW.2.1
  have HR := Lib.hid hR
  have HLEN := Lib.hid (fun t => redF_len hR (r := r) LN.out t)
  have HSZ := Lib.hid (fun t ht => redF_sz hR hJ (r := r) LN.out hK t ht)
  have HJ := Lib.hid hJ
  clear hR hJ hK
  go_enter Try.func66, Try.ntmps66
  go_upto_region 1 with (fail)
  have B0 := bl_alloc (bl_alloc (Below.refl w.heap.size w) (.cells #[.slice A n c, .int .i64 x.v, .slice x.A x.n x.c, .int .i64 x.v', .slice x.A' x.n' x.c', .bool b] 65)) (.cells #[.slice none 0 0, .int .i64 0, .slice none 0 0, .int .i64 0, .slice none 0 0, .bool false] 65)
  have a1 : ((w.alloc (.cells #[.slice A n c, .int .i64 x.v, .slice x.A x.n x.c, .int .i64 x.v', .slice x.A' x.n' x.c', .bool b] 65)).alloc (.cells #[.slice none 0 0, .int .i64 0, .slice none 0 0, .int .i64 0, .slice none 0 0, .bool false] 65)).heap[w.heap.size]? = some (.cells #[.slice A n c, .int .i64 x.v, .slice x.A x.n x.c, .int .i64 x.v', .slice x.A' x.n' x.c', .bool b] 65 (0, 0)) := blk_alloc (blk_at _ rfl) _
  have a2 : ((w.alloc (.cells #[.slice A n c, .int .i64 x.v, .slice x.A x.n x.c, .int .i64 x.v', .slice x.A' x.n' x.c', .bool b] 65)).alloc (.cells #[.slice none 0 0, .int .i64 0, .slice none 0 0, .int .i64 0, .slice none 0 0, .bool false] 65)).heap[w.heap.size + 1]? = some (.cells #[.slice none 0 0, .int .i64 0, .slice none 0 0, .int .i64 0, .slice none 0 0, .bool false] 65 (0, 0)) := blk_at _ (by simp)
  have h0 := h.below B0
  generalize (w.alloc (.cells #[.slice A n c, .int .i64 x.v, .slice x.A x.n x.c, .int .i64 x.v', .slice x.A' x.n' x.c', .bool b] 65)).alloc (.cells #[.slice none 0 0, .int .i64 0, .slice none 0 0, .int .i64 0, .slice none 0 0, .bool false] 65) = W0 at *
  clear h
  go_wp2_with fail
  go_loopw [10] (fun i wr => ∃ (kk : Nat) (A9 : Option Addr) (c9 : Nat) (x9 : RC), kk ≤ m ∧ i = .int .i64 kk ∧ RwV wr A9 n x9 (redF (R.take kk) r) ∧ wr.heap[w.heap.size]? = some (.cells #[.slice A9 n c9, .int .i64 x9.v, .slice x9.A x9.n x9.c, .int .i64 x9.v', .slice x9.A' x9.n' x9.c', .bool b] 65 (0, 0)) ∧ wr.heap[w.heap.size + 1]? = some (.cells #[.slice none 0 0, .int .i64 0, .slice none 0 0, .int .i64 0, .slice none 0 0, .bool false] 65 (0, 0)) ∧ Below w.heap.size w wr) (fun i _ => m - (intOf i).toNat)
  case atStart => exact ⟨0, A, c, x, Nat.zero_le _, rfl, h0, a1, a2, B0⟩
  case round =>
    clear a1 a2 B0 h0
    obtain ⟨kk, A9, c9, x9, hkk, rfl, hr9, a1, a2, B0⟩ := hrel
    by_cases hlt : kk < m
    · obtain ⟨gm, om, rfl, hgm, hcm⟩ := (hW.below B0).2.2 (by omega)
      obtain ⟨Aq, nq, cq, xq, bq, hq6, hqv⟩ := hcm kk hlt
      have hmem : R.getD kk ([], 0) ∈ R := by rw [List.getD_eq_getElem?_getD, List.getElem?_eq_getElem (by rw [LM.out]; exact hlt)]; exact List.getElem_mem _
      have hql := HR.out _ hmem
      have hqn : n = nq := by rw [← hqv.1.1]; exact hql.1.symm
      subst hqn
      have HT := Lib.hid (redF_take R r kk (by rw [LM.out]; exact hlt))
      have SQ := HJ.out _ hmem
      have SR := HSZ.out kk (by rw [LM.out]; exact hkk)
      have LR := HLEN.out kk
      have LQ := hql.1
      have HQ2 := hql.2
      generalize redF (R.take kk) r = rk at *
      generalize R.getD kk ([], 0) = qk at *
      clear hcm hmem hql hW
      obtain ⟨p1, p2, p3, p4, p5, p6⟩ := hq6
      obtain ⟨g9, o9, rfl, hg9, hc9⟩ := hr9.1.2.2.1 (by omega)
      obtain ⟨y, ay, hy⟩ := hc9 (ldF qk.1) HQ2
      clear hc9
      generalize hld : ldF qk.1 = ld at *
      have HLD := Lib.hid hld
      clear hld
      have hld0 : (0 : Int) ≤ (ld : Int) := by omega
      have hldn : (ld : Int) < (n : Int) := by omega
      go_upto_region 4 with (fail)
      have a5 : (wr.alloc (.cells #[.slice Aq n cq, .int .i64 xq.v, .slice xq.A xq.n xq.c, .int .i64 xq.v', .slice xq.A' xq.n' xq.c', .bool bq] 65)).heap[wr.heap.size]? = some (.cells #[.slice Aq n cq, .int .i64 xq.v, .slice xq.A xq.n xq.c, .int .i64 xq.v', .slice xq.A' xq.n' xq.c', .bool bq] 65 (0, 0)) := blk_at _ rfl
      have RQ : RwV (wr.alloc (.cells #[.slice Aq n cq, .int .i64 xq.v, .slice xq.A xq.n xq.c, .int .i64 xq.v', .slice xq.A' xq.n' xq.c', .bool bq] 65)) Aq n xq qk := hqv.below (bl_alloc (Below.refl _ _) _)
      replace hr9 := hr9.below (bl_alloc (Below.refl _ _) (.cells #[.slice Aq n cq, .int .i64 xq.v, .slice xq.A xq.n xq.c, .int .i64 xq.v', .slice xq.A' xq.n' xq.c', .bool bq] 65))
      replace hy := hy.below (bl_alloc (Below.refl _ _) (.cells #[.slice Aq n cq, .int .i64 xq.v, .slice xq.A xq.n xq.c, .int .i64 xq.v', .slice xq.A' xq.n' xq.c', .bool bq] 65))
      replace ay := At4.below ay hg9 (bl_alloc (Below.refl _ _) (.cells #[.slice Aq n cq, .int .i64 xq.v, .slice xq.A xq.n xq.c, .int .i64 xq.v', .slice xq.A' xq.n' xq.c', .bool bq] 65))
      have l9 : g9 < (wr.alloc (.cells #[.slice Aq n cq, .int .i64 xq.v, .slice xq.A xq.n xq.c, .int .i64 xq.v', .slice xq.A' xq.n' xq.c', .bool bq] 65)).heap.size := by simp; omega
      replace a1 := blk_alloc a1 (.cells #[.slice Aq n cq, .int .i64 xq.v, .slice xq.A xq.n xq.c, .int .i64 xq.v', .slice xq.A' xq.n' xq.c', .bool bq] 65)
      replace a2 := blk_alloc a2 (.cells #[.slice Aq n cq, .int .i64 xq.v, .slice xq.A xq.n xq.c, .int .i64 xq.v', .slice xq.A' xq.n' xq.c', .bool bq] 65)
      replace B0 := bl_alloc B0 (.cells #[.slice Aq n cq, .int .i64 xq.v, .slice xq.A xq.n xq.c, .int .i64 xq.v', .slice xq.A' xq.n' xq.c', .bool bq] 65)
      clear p1 p2 p3 p4 p5 p6 hg9 hqv
      generalize hg6 : wr.heap.size = g6 at *
      generalize wr.alloc (.cells #[.slice Aq n cq, .int .i64 xq.v, .slice xq.A xq.n xq.c, .int .i64 xq.v', .slice xq.A' xq.n' xq.c', .bool bq] 65) = W4 at *
      clear hg6
      go_cut [7] (fun p wc => ∃ g7 : Nat, p = .pointer (some ⟨g7, 0, none⟩) ∧ wc.heap[g7]? = some (.cells #[.int .i64 y.v, .slice y.A y.n y.c, .int .i64 y.v', .slice y.A' y.n' y.c'] 63 (0, 0)) ∧ Below W4.heap.size W4 wc ∧ W4.heap.size ≤ g7)
      case first =>
        have a1_0 := a1
        have a5_0 := a5
        have ay_0 := ay
        have HB_0 := Below.refl W4.heap.size W4
        have l1 := blk_lt a1
        have l5 := blk_lt a5
        go_region_held3 (fun W => W.cell? ⟨w.heap.size, 0, none⟩ = some (Value.slice (some ⟨g9, o9, none⟩) n c9) ∧ W.cell? ⟨w.heap.size, 1, none⟩ = some (Value.int .i64 x9.v) ∧ W.cell? ⟨w.heap.size, 2, none⟩ = some (Value.slice x9.A x9.n x9.c) ∧ W.cell? ⟨w.heap.size, 3, none⟩ = some (Value.int .i64 x9.v') ∧ W.cell? ⟨w.heap.size, 4, none⟩ = some (Value.slice x9.A' x9.n' x9.c') ∧ W.cell? ⟨w.heap.size, 5, none⟩ = some (Value.bool b) ∧ W.cell? ⟨g6, 0, none⟩ = some (Value.slice Aq n cq) ∧ W.cell? ⟨g6, 1, none⟩ = some (Value.int .i64 xq.v) ∧ W.cell? ⟨g6, 2, none⟩ = some (Value.slice xq.A xq.n xq.c) ∧ W.cell? ⟨g6, 3, none⟩ = some (Value.int .i64 xq.v') ∧ W.cell? ⟨g6, 4, none⟩ = some (Value.slice xq.A' xq.n' xq.c') ∧ W.cell? ⟨g6, 5, none⟩ = some (Value.bool bq) ∧ W.cell? ⟨g9, o9 + ld * 4, none⟩ = some (Value.int .i64 y.v) ∧ W.cell? ⟨g9, o9 + ld * 4 + 1, none⟩ = some (Value.slice y.A y.n y.c) ∧ W.cell? ⟨g9, o9 + ld * 4 + 2, none⟩ = some (Value.int .i64 y.v') ∧ W.cell? ⟨g9, o9 + ld * 4 + 3, none⟩ = some (Value.slice y.A' y.n' y.c')) (first | (refine qj6 (qx6 (t := 65) ?_) (qj6 (qx6 (t := 65) ?_) (at4c ?_)) <;> (repeat (first | with_reducible exact a1_1 | with_reducible exact a1_0 | with_reducible exact a5_1 | with_reducible exact a5_0 | with_reducible exact ay_1 | with_reducible exact ay_0 | with_reducible refine blk_alloc ?_ _ | with_reducible refine blk_drew ?_ | with_reducible refine q6_far ?_ ?_ _ _ _ _ _ _ | with_reducible refine q4_far ?_ ?_ _ _ _ _ | with_reducible refine At4.dr ?_ | with_reducible refine At4.st4 ?_ ?_ _ _ _ _ | with_reducible refine At4.al ?_ ?_ _ | omega)); done) | go_keep) (first | (go_at_call 42; refine (lead_calls Aq n cq xq bq qk _ (by first | exact RwV.below RQ (bl_drew (Below.refl _ _)) | exact RwV.below RQ (bl_drew (bl_alloc (Below.refl _ _) _)))).mono ?_; rintro e ww ⟨he, hB5⟩; rw [HLD.out] at he; subst he; have a1_1 : ww.heap[w.heap.size]? = some (.cells #[.slice (some ⟨g9, o9, none⟩) n c9, .int .i64 x9.v, .slice x9.A x9.n x9.c, .int .i64 x9.v', .slice x9.A' x9.n' x9.c', .bool b] 65 (0, 0)) := (by repeat (first | with_reducible exact a1_0 | with_reducible refine blk_below ?_ hB5 | with_reducible refine blk_alloc ?_ _ | with_reducible refine blk_drew ?_)); have a5_1 : ww.heap[g6]? = some (.cells #[.slice Aq n cq, .int .i64 xq.v, .slice xq.A xq.n xq.c, .int .i64 xq.v', .slice xq.A' xq.n' xq.c', .bool bq] 65 (0, 0)) := (by repeat (first | with_reducible exact a5_0 | with_reducible refine blk_below ?_ hB5 | with_reducible refine blk_alloc ?_ _ | with_reducible refine blk_drew ?_)); have HB_1 : Below W4.heap.size W4 ww := (by repeat (first | with_reducible exact HB_0 | with_reducible refine bl_then ?_ hB5 | with_reducible refine bl_alloc ?_ _ | with_reducible refine bl_drew ?_)); have lw9 := HB_1.size; have ay_1 : At4 ww g9 (o9 + ld * 4) y := At4.below ay l9 HB_1; (first | (have EA : ww.heap[W4.heap.size]? = some (.cells #[.int .i64 0, .slice none 0 0, .int .i64 0, .slice none 0 0] 63 (0, 0)) := blk_below (blk_drew (blk_at _ rfl)) hB5; have EX := bx4 EA; obtain ⟨⟨e1, e2, e3, e4⟩, e5, e6, e7, e8⟩ := EX) | skip)) | fail)
        all_goals
          have lw := HB_1.size
          go_wp2
          go_meet
          case rel =>
            refine ⟨_, rfl, ?_, ?_, ?_⟩
            · first
                | with_reducible exact blk_at _ rfl
                | with_reducible exact q4_set EA _ _ _ _
            · repeat (first | with_reducible exact HB_1 | with_reducible refine bl_alloc ?_ _ | with_reducible refine q4_bl ?_ ?_ _ _ _ _ | omega)
            · omega
      case rest =>
        obtain ⟨g7, rfl, a7, HB7, l7⟩ := hcut
        replace a1 := blk_below a1 HB7
        replace a2 := blk_below a2 HB7
        replace a5 := blk_below a5 HB7
        replace hr9 := hr9.below HB7
        replace RQ := RQ.below HB7
        replace hy := hy.below HB7
        have l6 := blk_lt a5
        replace B0 := bl_then B0 HB7
        clear HB7 ay l9
        obtain ⟨⟨k1, k2, k3, k4⟩, k5⟩ := bx4 a7
        go_wp2_with fail
        refine (rsign_calls y.v y.A y.n y.c y.v' y.A' y.n' y.c' (rk.1.getD ld 0) _ hy).mono ?_
        rintro e w5 ⟨rfl, hB5⟩
        clear k1 k2 k3 k4 k5
        replace a1 := blk_below a1 hB5
        replace a2 := blk_below a2 hB5
        replace a5 := blk_below a5 hB5
        replace a7 := blk_below a7 hB5
        replace hr9 := hr9.below hB5
        replace RQ := RQ.below hB5
        replace hy := hy.below hB5
        replace B0 := bl_then B0 hB5
        clear hB5
        by_cases hc0 : rk.1.getD ld 0 = 0
        · have hs := (num_sign_zero _).2 hc0
          rw [hs]
          have E := Lib.hid (show red1 qk rk = rk by unfold red1; rw [HLD.out, if_pos hc0])
          clear hs hc0
          go_wp2
          go_roundw
          case rel => exact ⟨kk + 1, some ⟨g9, o9, none⟩, c9, x9, hlt, by go_num, by rw [HT.out, E.out]; exact hr9, a1, a2, B0⟩
          case measure => simp [intOf]; omega
        · have hs : ((rk.1.getD ld 0).num.sign != 0) = true := by
            have : ¬ (rk.1.getD ld 0).num.sign = 0 := fun h => hc0 ((num_sign_zero _).1 h)
            simpa using this
          have E := Lib.hid (show red1 qk rk = pls rk (tms qk (-(rk.1.getD ld 0 / qk.1.getD ld 0))) by unfold red1; rw [HLD.out, if_neg hc0])
          have hq0 : qk.1.getD ld 0 ≠ 0 := by rw [← HLD.out]; exact ldF_ne qk.1 (by rw [HLD.out, LQ]; exact HQ2)
          generalize (rk.1.getD ld 0).num.sign = sg at *
          obtain ⟨gq, oq, rfl, hgq, hcq⟩ := RQ.1.2.2.1 (by omega)
          obtain ⟨z, az, hz⟩ := hcq ld HQ2
          clear hcq
          have sc := SR.1 ld
          have sd := SQ.1 ld
          generalize hcv : rk.1.getD ld 0 = cv at *
          generalize hdv : qk.1.getD ld 0 = dv at *
          have HCV := Lib.hid hcv
          have HDV := Lib.hid hdv
          clear hcv hdv
          have KB := kR_mono K J (show kk ≤ m by omega)
          generalize kR K J kk = Kt at *
          have hKt := szr_ge sc
          have SM : SzR (Kt + J) (cv / dv) := qsz_div sc sd hq0
          have SN := SM.neg
          have ST : SzW (Kt + 2 * J) (tms qk (-(cv / dv))) := by
            refine ⟨fun j => ?_, (qsz_mul SQ.2 SN).mono (by omega)⟩
            rcases Nat.lt_or_ge j n with hj | hj
            · rw [show (tms qk (-(cv / dv))).1.getD j 0 = qk.1.getD j 0 * -(cv / dv) from getD_map (· * -(cv / dv)) qk.1 j 0 0 (by omega)]
              exact (qsz_mul (SQ.1 j) SN).mono (by omega)
            · rw [List.getD_eq_getElem?_getD, List.getElem?_eq_none (by rw [tms_len]; omega)]
              exact (show SzR 1 (0 : Rat) from ⟨by show (0 : Int).natAbs < 2 ^ 1; decide, by show (1 : Int).natAbs < 2 ^ 1; decide⟩).mono (by omega)
          have sc1 : SzR (Kt + J) cv := sc.mono (by omega)
          have sd1 : SzR (Kt + J) dv := sd.mono (by omega)
          have SQ1 : SzW (Kt + J) qk := ⟨fun j => (SQ.1 j).mono (by omega), SQ.2.mono (by omega)⟩
          have SR1 : SzW (Kt + 2 * J) rk := ⟨fun j => (SR.1 j).mono (by omega), SR.2.mono (by omega)⟩
          have LT : (tms qk (-(cv / dv))).1.length = n := by rw [tms_len]; exact LQ
          generalize htm : tms qk (-(cv / dv)) = tm at *
          have HTM := Lib.hid htm
          clear htm sc sd SQ SR
          generalize hmv : -(cv / dv) = mv at *
          have HMV := Lib.hid hmv
          clear hmv
          have H0 := Below.refl w5.heap.size w5
          have a1_0 := a1
          have a5_0 := a5
          have a7_0 := a7
          have az_0 := az
          obtain ⟨⟨f1, f2, f3, f4, f5, f6⟩, f7⟩ := q6 a1
          go_upto_region 6 with (fail)
          have hS0 : w5.drew.cell? ⟨w.heap.size, 0, none⟩ = some (Value.slice (some ⟨g9, o9, none⟩) n c9) ∧ w5.drew.cell? ⟨w.heap.size, 1, none⟩ = some (Value.int .i64 x9.v) ∧ w5.drew.cell? ⟨w.heap.size, 2, none⟩ = some (Value.slice x9.A x9.n x9.c) ∧ w5.drew.cell? ⟨w.heap.size, 3, none⟩ = some (Value.int .i64 x9.v') ∧ w5.drew.cell? ⟨w.heap.size, 4, none⟩ = some (Value.slice x9.A' x9.n' x9.c') ∧ w5.drew.cell? ⟨w.heap.size, 5, none⟩ = some (Value.bool b) ∧ w5.drew.cell? ⟨g6, 0, none⟩ = some (Value.slice (some ⟨gq, oq, none⟩) n cq) ∧ w5.drew.cell? ⟨g6, 1, none⟩ = some (Value.int .i64 xq.v) ∧ w5.drew.cell? ⟨g6, 2, none⟩ = some (Value.slice xq.A xq.n xq.c) ∧ w5.drew.cell? ⟨g6, 3, none⟩ = some (Value.int .i64 xq.v') ∧ w5.drew.cell? ⟨g6, 4, none⟩ = some (Value.slice xq.A' xq.n' xq.c') ∧ w5.drew.cell? ⟨g6, 5, none⟩ = some (Value.bool bq) ∧ w5.drew.cell? ⟨g7, 0, none⟩ = some (Value.int .i64 y.v) ∧ w5.drew.cell? ⟨g7, 1, none⟩ = some (Value.slice y.A y.n y.c) ∧ w5.drew.cell? ⟨g7, 2, none⟩ = some (Value.int .i64 y.v') ∧ w5.drew.cell? ⟨g7, 3, none⟩ = some (Value.slice y.A' y.n' y.c') ∧ w5.drew.cell? ⟨gq, oq + ld * 4, none⟩ = some (Value.int .i64 z.v) ∧ w5.drew.cell? ⟨gq, oq + ld * 4 + 1, none⟩ = some (Value.slice z.A z.n z.c) ∧ w5.drew.cell? ⟨gq, oq + ld * 4 + 2, none⟩ = some (Value.int .i64 z.v') ∧ w5.drew.cell? ⟨gq, oq + ld * 4 + 3, none⟩ = some (Value.slice z.A' z.n' z.c') := by exact qj6 (qx6 (t := 65) (blk_drew a1_0)) (qj6 (qx6 (t := 65) (blk_drew a5_0)) (qj4 (qx4 (t := 63) (blk_drew a7_0)) (at4c (At4.dr az_0))))
          refine wp_region_T (n := 13) (fun W => W.cell? ⟨w.heap.size, 0, none⟩ = some (Value.slice (some ⟨g9, o9, none⟩) n c9) ∧ W.cell? ⟨w.heap.size, 1, none⟩ = some (Value.int .i64 x9.v) ∧ W.cell? ⟨w.heap.size, 2, none⟩ = some (Value.slice x9.A x9.n x9.c) ∧ W.cell? ⟨w.heap.size, 3, none⟩ = some (Value.int .i64 x9.v') ∧ W.cell? ⟨w.heap.size, 4, none⟩ = some (Value.slice x9.A' x9.n' x9.c') ∧ W.cell? ⟨w.heap.size, 5, none⟩ = some (Value.bool b) ∧ W.cell? ⟨g6, 0, none⟩ = some (Value.slice (some ⟨gq, oq, none⟩) n cq) ∧ W.cell? ⟨g6, 1, none⟩ = some (Value.int .i64 xq.v) ∧ W.cell? ⟨g6, 2, none⟩ = some (Value.slice xq.A xq.n xq.c) ∧ W.cell? ⟨g6, 3, none⟩ = some (Value.int .i64 xq.v') ∧ W.cell? ⟨g6, 4, none⟩ = some (Value.slice xq.A' xq.n' xq.c') ∧ W.cell? ⟨g6, 5, none⟩ = some (Value.bool bq) ∧ W.cell? ⟨g7, 0, none⟩ = some (Value.int .i64 y.v) ∧ W.cell? ⟨g7, 1, none⟩ = some (Value.slice y.A y.n y.c) ∧ W.cell? ⟨g7, 2, none⟩ = some (Value.int .i64 y.v') ∧ W.cell? ⟨g7, 3, none⟩ = some (Value.slice y.A' y.n' y.c') ∧ W.cell? ⟨gq, oq + ld * 4, none⟩ = some (Value.int .i64 z.v) ∧ W.cell? ⟨gq, oq + ld * 4 + 1, none⟩ = some (Value.slice z.A z.n z.c) ∧ W.cell? ⟨gq, oq + ld * 4 + 2, none⟩ = some (Value.int .i64 z.v') ∧ W.cell? ⟨gq, oq + ld * 4 + 3, none⟩ = some (Value.slice z.A' z.n' z.c')) (by kernel_rfl) ?_
          refine wpT_take (n := 13) (i := 0) (v := ?_) (by decide) (by kernel_rfl) rfl (by kernel_rfl) (by kernel_rfl) (by kernel_rfl) (fun _ _ _ h => h) (Or.inl ⟨by rfl, ?_⟩) hS0 ?_
          rotate_left
          · intro w' hSw
            (try dsimp only at hSw)
            go_simp
            (try with_reducible rfl)
          try simp only [Act.put, List.setIfInBounds_toArray, List.set_cons_zero, List.set_cons_succ]
          refine wpT_take (n := 13) (i := 1) (v := ?_) (by decide) (by kernel_rfl) rfl (by kernel_rfl) (by kernel_rfl) (by kernel_rfl) (fun _ _ _ h => h) (Or.inl ⟨by rfl, ?_⟩) hS0 ?_
          rotate_left
          · intro w' hSw
            (try dsimp only at hSw)
            go_simp
            (try with_reducible rfl)
          try simp only [Act.put, List.setIfInBounds_toArray, List.set_cons_zero, List.set_cons_succ]
          refine wpT_take (n := 13) (i := 2) (v := ?_) (by decide) (by kernel_rfl) rfl (by kernel_rfl) (by kernel_rfl) (by kernel_rfl) (fun _ _ _ h => h) (Or.inl ⟨by rfl, ?_⟩) hS0 ?_
          rotate_left
          · intro w' hSw
            (try dsimp only at hSw)
            go_simp
            (try with_reducible rfl)
          try simp only [Act.put, List.setIfInBounds_toArray, List.set_cons_zero, List.set_cons_succ]
          refine wpT_take (n := 13) (i := 3) (v := ?_) (by decide) (by kernel_rfl) rfl (by kernel_rfl) (by kernel_rfl) (by kernel_rfl) (fun _ _ _ h => h) (Or.inl ⟨by rfl, ?_⟩) hS0 ?_
          rotate_left
          · intro w' hSw
            (try dsimp only at hSw)
            go_simp
            (try with_reducible rfl)
          try simp only [Act.put, List.setIfInBounds_toArray, List.set_cons_zero, List.set_cons_succ]
          refine wpT_take (n := 13) (i := 4) (v := ?_) (by decide) (by kernel_rfl) rfl (by kernel_rfl) (by kernel_rfl) (by kernel_rfl) (fun _ _ _ h => h) (Or.inl ⟨by rfl, ?_⟩) hS0 ?_
          rotate_left
          · intro w' hSw
            (try dsimp only at hSw)
            go_simp
            (try with_reducible rfl)
          try simp only [Act.put, List.setIfInBounds_toArray, List.set_cons_zero, List.set_cons_succ]
          refine wpT_take (n := 13) (i := 5) (v := ?_) (by decide) (by kernel_rfl) rfl (by kernel_rfl) (by kernel_rfl) (by kernel_rfl) (fun _ _ _ h => h) (Or.inl ⟨by rfl, ?_⟩) hS0 ?_
          rotate_left
          · intro w' hSw
            (try dsimp only at hSw)
            go_simp
            (try with_reducible rfl)
          try simp only [Act.put, List.setIfInBounds_toArray, List.set_cons_zero, List.set_cons_succ]
          refine wpT_one (n := 13) (i := 6) (by kernel_rfl) rfl (fun KK hKK => ?_)
          go_simp
          refine (lead_calls (some ⟨gq, oq, none⟩) n cq xq bq qk _ (RwV.below RQ (bl_drew H0))).mono ?_
          rintro e w1' ⟨he, hB1⟩
          rw [HLD.out] at he
          subst he
          have H1 : Below w5.heap.size w5 w1' := (by first | exact bl_then H0 hB1 | exact bl_then (bl_drew H0) hB1)
          have a1_1 := blk_below a1 H1
          have a5_1 := blk_below a5 H1
          have a7_1 := blk_below a7 H1
          have az_1 := At4.below az hgq H1
          have F1 := q6 a1_1
          obtain ⟨⟨f1_1, f2_1, f3_1, f4_1, f5_1, f6_1⟩, f7_1⟩ := F1
          have hS1 : w1'.cell? ⟨w.heap.size, 0, none⟩ = some (Value.slice (some ⟨g9, o9, none⟩) n c9) ∧ w1'.cell? ⟨w.heap.size, 1, none⟩ = some (Value.int .i64 x9.v) ∧ w1'.cell? ⟨w.heap.size, 2, none⟩ = some (Value.slice x9.A x9.n x9.c) ∧ w1'.cell? ⟨w.heap.size, 3, none⟩ = some (Value.int .i64 x9.v') ∧ w1'.cell? ⟨w.heap.size, 4, none⟩ = some (Value.slice x9.A' x9.n' x9.c') ∧ w1'.cell? ⟨w.heap.size, 5, none⟩ = some (Value.bool b) ∧ w1'.cell? ⟨g6, 0, none⟩ = some (Value.slice (some ⟨gq, oq, none⟩) n cq) ∧ w1'.cell? ⟨g6, 1, none⟩ = some (Value.int .i64 xq.v) ∧ w1'.cell? ⟨g6, 2, none⟩ = some (Value.slice xq.A xq.n xq.c) ∧ w1'.cell? ⟨g6, 3, none⟩ = some (Value.int .i64 xq.v') ∧ w1'.cell? ⟨g6, 4, none⟩ = some (Value.slice xq.A' xq.n' xq.c') ∧ w1'.cell? ⟨g6, 5, none⟩ = some (Value.bool bq) ∧ w1'.cell? ⟨g7, 0, none⟩ = some (Value.int .i64 y.v) ∧ w1'.cell? ⟨g7, 1, none⟩ = some (Value.slice y.A y.n y.c) ∧ w1'.cell? ⟨g7, 2, none⟩ = some (Value.int .i64 y.v') ∧ w1'.cell? ⟨g7, 3, none⟩ = some (Value.slice y.A' y.n' y.c') ∧ w1'.cell? ⟨gq, oq + ld * 4, none⟩ = some (Value.int .i64 z.v) ∧ w1'.cell? ⟨gq, oq + ld * 4 + 1, none⟩ = some (Value.slice z.A z.n z.c) ∧ w1'.cell? ⟨gq, oq + ld * 4 + 2, none⟩ = some (Value.int .i64 z.v') ∧ w1'.cell? ⟨gq, oq + ld * 4 + 3, none⟩ = some (Value.slice z.A' z.n' z.c') := by exact qj6 (qx6 (t := 65) a1_1) (qj6 (qx6 (t := 65) a5_1) (qj4 (qx4 (t := 63) a7_1) (at4c az_1)))
          refine hKK.out _ _ (fun _ => hS1) (fun _ => ?_)
          clear hKK KK
          try simp only [Act.put, List.setIfInBounds_toArray, List.set_cons_zero, List.set_cons_succ]
          refine wpT_take (n := 13) (i := 7) (v := ?_) (by decide) (by kernel_rfl) rfl (by kernel_rfl) (by kernel_rfl) (by kernel_rfl) (fun _ _ _ h => h) (Or.inl ⟨by rfl, ?_⟩) hS1 ?_
          rotate_left
          · intro w' hSw
            (try dsimp only at hSw)
            go_simp
            (try with_reducible rfl)
          try simp only [Act.put, List.setIfInBounds_toArray, List.set_cons_zero, List.set_cons_succ]
          refine wpT_take (n := 13) (i := 8) (v := ?_) (by decide) (by kernel_rfl) rfl (by kernel_rfl) (by kernel_rfl) (by kernel_rfl) (fun _ _ _ h => h) (Or.inl ⟨by rfl, ?_⟩) hS1 ?_
          rotate_left
          · intro w' hSw
            (try dsimp only at hSw)
            go_simp
            (try with_reducible rfl)
          try simp only [Act.put, List.setIfInBounds_toArray, List.set_cons_zero, List.set_cons_succ]
          refine wpT_one (n := 13) (i := 9) (by kernel_rfl) rfl (fun KK hKK => ?_)
          go_simp
          refine (rdiv_calls y.v y.A y.n y.c y.v' y.A' y.n' y.c' cv z.v z.A z.n z.c z.v' z.A' z.n' z.c' dv _ (RatV.below hy H1) (RatV.below hz H1) (Kt + J) sc1 sd1 (by omega) hq0).mono ?_
          rintro e w2' ⟨⟨v2, A2, n2, c2, v2', A2', n2', c2', rfl, t2⟩, hB2⟩
          have H2 : Below w5.heap.size w5 w2' := (by first | exact bl_then H1 hB2 | exact bl_then (bl_drew H1) hB2)
          have a1_2 := blk_below a1 H2
          have a5_2 := blk_below a5 H2
          have a7_2 := blk_below a7 H2
          have az_2 := At4.below az hgq H2
          have F2 := q6 a1_2
          obtain ⟨⟨f1_2, f2_2, f3_2, f4_2, f5_2, f6_2⟩, f7_2⟩ := F2
          have hS2 : w2'.cell? ⟨w.heap.size, 0, none⟩ = some (Value.slice (some ⟨g9, o9, none⟩) n c9) ∧ w2'.cell? ⟨w.heap.size, 1, none⟩ = some (Value.int .i64 x9.v) ∧ w2'.cell? ⟨w.heap.size, 2, none⟩ = some (Value.slice x9.A x9.n x9.c) ∧ w2'.cell? ⟨w.heap.size, 3, none⟩ = some (Value.int .i64 x9.v') ∧ w2'.cell? ⟨w.heap.size, 4, none⟩ = some (Value.slice x9.A' x9.n' x9.c') ∧ w2'.cell? ⟨w.heap.size, 5, none⟩ = some (Value.bool b) ∧ w2'.cell? ⟨g6, 0, none⟩ = some (Value.slice (some ⟨gq, oq, none⟩) n cq) ∧ w2'.cell? ⟨g6, 1, none⟩ = some (Value.int .i64 xq.v) ∧ w2'.cell? ⟨g6, 2, none⟩ = some (Value.slice xq.A xq.n xq.c) ∧ w2'.cell? ⟨g6, 3, none⟩ = some (Value.int .i64 xq.v') ∧ w2'.cell? ⟨g6, 4, none⟩ = some (Value.slice xq.A' xq.n' xq.c') ∧ w2'.cell? ⟨g6, 5, none⟩ = some (Value.bool bq) ∧ w2'.cell? ⟨g7, 0, none⟩ = some (Value.int .i64 y.v) ∧ w2'.cell? ⟨g7, 1, none⟩ = some (Value.slice y.A y.n y.c) ∧ w2'.cell? ⟨g7, 2, none⟩ = some (Value.int .i64 y.v') ∧ w2'.cell? ⟨g7, 3, none⟩ = some (Value.slice y.A' y.n' y.c') ∧ w2'.cell? ⟨gq, oq + ld * 4, none⟩ = some (Value.int .i64 z.v) ∧ w2'.cell? ⟨gq, oq + ld * 4 + 1, none⟩ = some (Value.slice z.A z.n z.c) ∧ w2'.cell? ⟨gq, oq + ld * 4 + 2, none⟩ = some (Value.int .i64 z.v') ∧ w2'.cell? ⟨gq, oq + ld * 4 + 3, none⟩ = some (Value.slice z.A' z.n' z.c') := by exact qj6 (qx6 (t := 65) a1_2) (qj6 (qx6 (t := 65) a5_2) (qj4 (qx4 (t := 63) a7_2) (at4c az_2)))
          refine hKK.out _ _ (fun _ => hS2) (fun _ => ?_)
          clear hKK KK
          try simp only [Act.put, List.setIfInBounds_toArray, List.set_cons_zero, List.set_cons_succ]
          refine wpT_one (n := 13) (i := 10) (by kernel_rfl) rfl (fun KK hKK => ?_)
          go_simp
          refine (rneg_calls v2 A2 n2 c2 v2' A2' n2' c2' (cv / dv) _ t2).mono ?_
          rintro e w3' ⟨⟨v3, A3, n3, c3, v3', A3', n3', c3', rfl, t3⟩, hB3⟩
          rw [HMV.out] at t3
          have H3 : Below w5.heap.size w5 w3' := (by first | exact bl_then H2 hB3 | exact bl_then (bl_drew H2) hB3)
          have a1_3 := blk_below a1 H3
          have a5_3 := blk_below a5 H3
          have a7_3 := blk_below a7 H3
          have az_3 := At4.below az hgq H3
          have F3 := q6 a1_3
          obtain ⟨⟨f1_3, f2_3, f3_3, f4_3, f5_3, f6_3⟩, f7_3⟩ := F3
          have hS3 : w3'.cell? ⟨w.heap.size, 0, none⟩ = some (Value.slice (some ⟨g9, o9, none⟩) n c9) ∧ w3'.cell? ⟨w.heap.size, 1, none⟩ = some (Value.int .i64 x9.v) ∧ w3'.cell? ⟨w.heap.size, 2, none⟩ = some (Value.slice x9.A x9.n x9.c) ∧ w3'.cell? ⟨w.heap.size, 3, none⟩ = some (Value.int .i64 x9.v') ∧ w3'.cell? ⟨w.heap.size, 4, none⟩ = some (Value.slice x9.A' x9.n' x9.c') ∧ w3'.cell? ⟨w.heap.size, 5, none⟩ = some (Value.bool b) ∧ w3'.cell? ⟨g6, 0, none⟩ = some (Value.slice (some ⟨gq, oq, none⟩) n cq) ∧ w3'.cell? ⟨g6, 1, none⟩ = some (Value.int .i64 xq.v) ∧ w3'.cell? ⟨g6, 2, none⟩ = some (Value.slice xq.A xq.n xq.c) ∧ w3'.cell? ⟨g6, 3, none⟩ = some (Value.int .i64 xq.v') ∧ w3'.cell? ⟨g6, 4, none⟩ = some (Value.slice xq.A' xq.n' xq.c') ∧ w3'.cell? ⟨g6, 5, none⟩ = some (Value.bool bq) ∧ w3'.cell? ⟨g7, 0, none⟩ = some (Value.int .i64 y.v) ∧ w3'.cell? ⟨g7, 1, none⟩ = some (Value.slice y.A y.n y.c) ∧ w3'.cell? ⟨g7, 2, none⟩ = some (Value.int .i64 y.v') ∧ w3'.cell? ⟨g7, 3, none⟩ = some (Value.slice y.A' y.n' y.c') ∧ w3'.cell? ⟨gq, oq + ld * 4, none⟩ = some (Value.int .i64 z.v) ∧ w3'.cell? ⟨gq, oq + ld * 4 + 1, none⟩ = some (Value.slice z.A z.n z.c) ∧ w3'.cell? ⟨gq, oq + ld * 4 + 2, none⟩ = some (Value.int .i64 z.v') ∧ w3'.cell? ⟨gq, oq + ld * 4 + 3, none⟩ = some (Value.slice z.A' z.n' z.c') := by exact qj6 (qx6 (t := 65) a1_3) (qj6 (qx6 (t := 65) a5_3) (qj4 (qx4 (t := 63) a7_3) (at4c az_3)))
          refine hKK.out _ _ (fun _ => hS3) (fun _ => ?_)
          clear hKK KK
          try simp only [Act.put, List.setIfInBounds_toArray, List.set_cons_zero, List.set_cons_succ]
          refine wpT_one (n := 13) (i := 11) (by kernel_rfl) rfl (fun KK hKK => ?_)
          go_simp
          refine (rowtimes_calls (some ⟨gq, oq, none⟩) n cq xq bq qk ⟨v3, A3, n3, c3, v3', A3', n3', c3'⟩ mv _ (RwV.below RQ H3) t3 (Kt + J) SQ1 SN (by omega)).mono ?_
          rintro e w4' ⟨⟨A4, n4, c4, x4, rfl, t4⟩, hB4⟩
          rw [HTM.out] at t4
          have hn4 : n = n4 := by rw [← t4.1.1]; exact LT.symm
          subst hn4
          have H4 : Below w5.heap.size w5 w4' := (by first | exact bl_then H3 hB4 | exact bl_then (bl_drew H3) hB4)
          have a1_4 := blk_below a1 H4
          have a5_4 := blk_below a5 H4
          have a7_4 := blk_below a7 H4
          have az_4 := At4.below az hgq H4
          have F4 := q6 a1_4
          obtain ⟨⟨f1_4, f2_4, f3_4, f4_4, f5_4, f6_4⟩, f7_4⟩ := F4
          have hS4 : w4'.cell? ⟨w.heap.size, 0, none⟩ = some (Value.slice (some ⟨g9, o9, none⟩) n c9) ∧ w4'.cell? ⟨w.heap.size, 1, none⟩ = some (Value.int .i64 x9.v) ∧ w4'.cell? ⟨w.heap.size, 2, none⟩ = some (Value.slice x9.A x9.n x9.c) ∧ w4'.cell? ⟨w.heap.size, 3, none⟩ = some (Value.int .i64 x9.v') ∧ w4'.cell? ⟨w.heap.size, 4, none⟩ = some (Value.slice x9.A' x9.n' x9.c') ∧ w4'.cell? ⟨w.heap.size, 5, none⟩ = some (Value.bool b) ∧ w4'.cell? ⟨g6, 0, none⟩ = some (Value.slice (some ⟨gq, oq, none⟩) n cq) ∧ w4'.cell? ⟨g6, 1, none⟩ = some (Value.int .i64 xq.v) ∧ w4'.cell? ⟨g6, 2, none⟩ = some (Value.slice xq.A xq.n xq.c) ∧ w4'.cell? ⟨g6, 3, none⟩ = some (Value.int .i64 xq.v') ∧ w4'.cell? ⟨g6, 4, none⟩ = some (Value.slice xq.A' xq.n' xq.c') ∧ w4'.cell? ⟨g6, 5, none⟩ = some (Value.bool bq) ∧ w4'.cell? ⟨g7, 0, none⟩ = some (Value.int .i64 y.v) ∧ w4'.cell? ⟨g7, 1, none⟩ = some (Value.slice y.A y.n y.c) ∧ w4'.cell? ⟨g7, 2, none⟩ = some (Value.int .i64 y.v') ∧ w4'.cell? ⟨g7, 3, none⟩ = some (Value.slice y.A' y.n' y.c') ∧ w4'.cell? ⟨gq, oq + ld * 4, none⟩ = some (Value.int .i64 z.v) ∧ w4'.cell? ⟨gq, oq + ld * 4 + 1, none⟩ = some (Value.slice z.A z.n z.c) ∧ w4'.cell? ⟨gq, oq + ld * 4 + 2, none⟩ = some (Value.int .i64 z.v') ∧ w4'.cell? ⟨gq, oq + ld * 4 + 3, none⟩ = some (Value.slice z.A' z.n' z.c') := by exact qj6 (qx6 (t := 65) a1_4) (qj6 (qx6 (t := 65) a5_4) (qj4 (qx4 (t := 63) a7_4) (at4c az_4)))
          refine hKK.out _ _ (fun _ => hS4) (fun _ => ?_)
          clear hKK KK
          try simp only [Act.put, List.setIfInBounds_toArray, List.set_cons_zero, List.set_cons_succ]
          refine wpT_one (n := 13) (i := 12) (by kernel_rfl) rfl (fun KK hKK => ?_)
          go_simp
          refine (rowplus_calls (some ⟨g9, o9, none⟩) n c9 x9 b rk A4 c4 x4 bq tm _ (RwV.below hr9 H4) t4 (Kt + 2 * J) SR1 ST (by omega)).mono ?_
          rintro e w5' ⟨⟨A8, n8, c8, x8, rfl, t8⟩, hB5⟩
          have H5 : Below w5.heap.size w5 w5' := (by first | exact bl_then H4 hB5 | exact bl_then (bl_drew H4) hB5)
          have a1_5 := blk_below a1 H5
          have a5_5 := blk_below a5 H5
          have a7_5 := blk_below a7 H5
          have az_5 := At4.below az hgq H5
          have F5 := q6 a1_5
          obtain ⟨⟨f1_5, f2_5, f3_5, f4_5, f5_5, f6_5⟩, f7_5⟩ := F5
          have hS5 : w5'.cell? ⟨w.heap.size, 0, none⟩ = some (Value.slice (some ⟨g9, o9, none⟩) n c9) ∧ w5'.cell? ⟨w.heap.size, 1, none⟩ = some (Value.int .i64 x9.v) ∧ w5'.cell? ⟨w.heap.size, 2, none⟩ = some (Value.slice x9.A x9.n x9.c) ∧ w5'.cell? ⟨w.heap.size, 3, none⟩ = some (Value.int .i64 x9.v') ∧ w5'.cell? ⟨w.heap.size, 4, none⟩ = some (Value.slice x9.A' x9.n' x9.c') ∧ w5'.cell? ⟨w.heap.size, 5, none⟩ = some (Value.bool b) ∧ w5'.cell? ⟨g6, 0, none⟩ = some (Value.slice (some ⟨gq, oq, none⟩) n cq) ∧ w5'.cell? ⟨g6, 1, none⟩ = some (Value.int .i64 xq.v) ∧ w5'.cell? ⟨g6, 2, none⟩ = some (Value.slice xq.A xq.n xq.c) ∧ w5'.cell? ⟨g6, 3, none⟩ = some (Value.int .i64 xq.v') ∧ w5'.cell? ⟨g6, 4, none⟩ = some (Value.slice xq.A' xq.n' xq.c') ∧ w5'.cell? ⟨g6, 5, none⟩ = some (Value.bool bq) ∧ w5'.cell? ⟨g7, 0, none⟩ = some (Value.int .i64 y.v) ∧ w5'.cell? ⟨g7, 1, none⟩ = some (Value.slice y.A y.n y.c) ∧ w5'.cell? ⟨g7, 2, none⟩ = some (Value.int .i64 y.v') ∧ w5'.cell? ⟨g7, 3, none⟩ = some (Value.slice y.A' y.n' y.c') ∧ w5'.cell? ⟨gq, oq + ld * 4, none⟩ = some (Value.int .i64 z.v) ∧ w5'.cell? ⟨gq, oq + ld * 4 + 1, none⟩ = some (Value.slice z.A z.n z.c) ∧ w5'.cell? ⟨gq, oq + ld * 4 + 2, none⟩ = some (Value.int .i64 z.v') ∧ w5'.cell? ⟨gq, oq + ld * 4 + 3, none⟩ = some (Value.slice z.A' z.n' z.c') := by exact qj6 (qx6 (t := 65) a1_5) (qj6 (qx6 (t := 65) a5_5) (qj4 (qx4 (t := 63) a7_5) (at4c az_5)))
          refine hKK.out _ _ (fun _ => hS5) (fun _ => ?_)
          clear hKK KK
          try simp only [Act.put, List.setIfInBounds_toArray, List.set_cons_zero, List.set_cons_succ]
          refine wpT_one (n := 13) (i := 13) (by kernel_rfl) rfl (fun KK hKK => ?_)
          go_simp
          refine hKK.out _ _ (fun h => absurd rfl h) (fun _ => ?_)
          clear hKK KK
          try simp only [Act.put, List.setIfInBounds_toArray, List.set_cons_zero, List.set_cons_succ]
          refine wpT_done (by kernel_rfl) ?_ _
          have hn8 : n = n8 := by rw [← t8.1.1, pls_len rk tm (by rw [LT, LR]), LR]
          subst hn8
          have V1 := Lib.hid (RwV.st6 t8 a1_5 (.slice A8 n c8) (.int .i64 x8.v) (.slice x8.A x8.n x8.c) (.int .i64 x8.v') (.slice x8.A' x8.n' x8.c') (.bool b))
          have V2 := Lib.hid (q6_set a1_5 (.slice A8 n c8) (.int .i64 x8.v) (.slice x8.A x8.n x8.c) (.int .i64 x8.v') (.slice x8.A' x8.n' x8.c') (.bool b))
          have V3 := Lib.hid (q6_far (blk_below a2 H5) (show w.heap.size + 1 ≠ w.heap.size by omega) (.slice A8 n c8) (.int .i64 x8.v) (.slice x8.A x8.n x8.c) (.int .i64 x8.v') (.slice x8.A' x8.n' x8.c') (.bool b))
          have V4 := Lib.hid (q6_bl (bl_then B0 H5) (Nat.le_refl w.heap.size) (.slice A8 n c8) (.int .i64 x8.v) (.slice x8.A x8.n x8.c) (.int .i64 x8.v') (.slice x8.A' x8.n' x8.c') (.bool b))
          go_wp2
          go_roundw
          case rel => exact ⟨kk + 1, A8, c8, x8, hlt, by go_num, by rw [HT.out, E.out]; exact V1.out, V2.out, V3.out, V4.out⟩
          case measure => simp [intOf]; omega
    · have hkn : kk = m := by omega
      subst hkn
      have E : Hid (redF (R.take kk) r = redF R r) := Lib.hid (by rw [List.take_of_length_le (by rw [LM.out]; exact Nat.le_refl _)])
      rw [E.out] at hr9
      obtain ⟨⟨f1, f2, f3, f4, f5, f6⟩, f7⟩ := q6 a1
      obtain ⟨⟨m1, m2, m3, m4, m5, m6⟩, m7⟩ := q6 a2
      have U1 := q6_set a2 (.slice A9 n c9) (.int .i64 x9.v) (.slice x9.A x9.n x9.c) (.int .i64 x9.v') (.slice x9.A' x9.n' x9.c') (.bool b)
      have U4 := q6_bl B0 (show w.heap.size ≤ w.heap.size + 1 by omega) (.slice A9 n c9) (.int .i64 x9.v) (.slice x9.A x9.n x9.c) (.int .i64 x9.v') (.slice x9.A' x9.n' x9.c') (.bool b)
      have U5 := RwV.st6 hr9 a2 (.slice A9 n c9) (.int .i64 x9.v) (.slice x9.A x9.n x9.c) (.int .i64 x9.v') (.slice x9.A' x9.n' x9.c') (.bool b)
      go_wp2
      refine bodyPost_ret (results_cell_row rfl _ _ (w.heap.size + 1) 65 #[.slice A9 n c9, .int .i64 x9.v, .slice x9.A x9.n x9.c, .int .i64 x9.v', .slice x9.A' x9.n' x9.c', .bool b] (0, 0) _ rfl U1 Try.underlying65 rfl (by kernel_rfl)) rfl ?_
      exact ⟨⟨_, n, c9, x9, rfl, U5⟩, U4⟩
end Go.Proofs.Ytjmbpeniibdnoaa

namespace Go.Proofs.Ytjmbpeniibdnoaa
open Go.RowKit

/-- The cells of a row. -/
structure WC where
  A : Option Addr
  n : Nat
  c : Nat
  x : RC
  b : Bool
def WC.cells (y : WC) : List Value := [.slice y.A y.n y.c, .int .i64 y.x.v, .slice y.x.A y.x.n y.x.c, .int .i64 y.x.v', .slice y.x.A' y.x.n' y.x.c', .bool y.b]
def WC.zero : WC := ⟨none, 0, 0, RC.zero, false⟩
def WC.Is (w : World) (y : WC) (r : Rw) : Prop := RwV w y.A y.n y.x r
def wcl : List WC → List Value
  | [] => []
  | y :: l => y.cells ++ wcl l
theorem wcl_len (l : List WC) : (wcl l).length = l.length * 6 := by
  induction l with
  | nil => rfl
  | cons y l ih =>
    show (y.cells ++ wcl l).length = _
    rw [List.length_append, ih, List.length_cons, show y.cells.length = 6 from rfl]; omega
theorem wcl_app (l m : List WC) : wcl (l ++ m) = wcl l ++ wcl m := by
  induction l with
  | nil => rfl
  | cons y l ih => show y.cells ++ wcl (l ++ m) = (y.cells ++ wcl l) ++ wcl m; rw [ih, List.append_assoc]
theorem wcl_at (l : List WC) (j i : Nat) (hj : j < l.length) (hi : i < 6) : (wcl l)[j * 6 + i]? = (l.getD j WC.zero).cells[i]? := by
  induction l generalizing j with
  | nil => simp at hj
  | cons y l ih =>
    show (y.cells ++ wcl l)[j * 6 + i]? = _
    cases j with
    | zero => rw [Nat.zero_mul, Nat.zero_add, List.getElem?_append_left (by show i < 6; exact hi)]; rfl
    | succ j =>
      rw [List.getElem?_append_right (by show 6 ≤ _; omega), show (j + 1) * 6 + i - y.cells.length = j * 6 + i by show _ - 6 = _; omega, ih j (by simpa using hj)]
      simp
/-- A slice of rows of the call's own. -/
def OwnW (w : World) (base : Nat) (v : Value) (n : Nat) (R : List Rw) : Prop :=
  ∃ l : List WC, w.ownsRow base 65 6 v n (wcl l) ∧ l.length = n ∧ R.length = n ∧ ∀ j, j < n → (l.getD j WC.zero).Is w (R.getD j ([], 0))
theorem OwnW.nil (w : World) (base : Nat) : OwnW w base (.slice none 0 0) 0 [] := ⟨[], World.ownsRow_nil w base _ 6, rfl, rfl, fun j hj => absurd hj (by omega)⟩
theorem OwnW.below {w w' : World} {base n : Nat} {v : Value} {R : List Rw} (h : OwnW w base v n R) (hb : Below w.heap.size w w') : OwnW w' base v n R := by
  obtain ⟨l, h1, h2, h3, h4⟩ := h
  exact ⟨l, own_alloc_below h1 hb, h2, h3, fun j hj => (h4 j hj).below hb⟩
theorem OwnW.rd {w : World} {base n : Nat} {v : Value} {R : List Rw} (h : OwnW w base v n R) (hn : n ≤ 1000000) : ∃ A c, v = .slice A n c ∧ RdW w A n R := by
  obtain ⟨l, h1, h2, h3, h4⟩ := h
  have h1' := h1
  rcases h1.2 with ⟨rfl, rfl⟩ | ⟨g, cap, cur, rfl, hb, hg, hc, hm, hs, ht⟩
  · exact ⟨none, 0, rfl, h3, by omega, fun hp => absurd hp (by omega)⟩
  · refine ⟨_, cap, rfl, h3, hn, fun _ => ⟨g, 0, rfl, blk_lt hg, fun j hj => ?_⟩⟩
    have k : ∀ i, i < 6 → w.cell? ⟨g, j * 6 + i, none⟩ = (l.getD j WC.zero).cells[i]? := fun i hi => by rw [h1'.cellAt _ (by omega), wcl_at l j i (by omega) hi]
    rw [Nat.zero_add]
    exact ⟨_, _, _, _, _, ⟨k 0 (by omega), k 1 (by omega), k 2 (by omega), k 3 (by omega), k 4 (by omega), k 5 (by omega)⟩, h4 j hj⟩
theorem kp_grown {W W' : World} {base n sz : Nat} {T t : TypeId} {v : Value} {xs : List Value} (h : W.ownsRow base T sz v n xs) (hg : W.grownBy W' v.ownBlock) (ht : T ≠ t) : Kp t W W' := by
  refine ⟨fun g cs fr hb => ?_⟩
  rw [hg.block g (blk_lt hb) ?_]
  · exact hb
  · rcases h.2 with ⟨rfl, _⟩ | ⟨g', cap, cur, rfl, _, hg', _⟩
    · simp [Value.ownBlock]
    · simp only [Value.ownBlock]
      intro e
      have : g = g' := Option.some.inj e
      subst this
      rw [hb] at hg'
      injection hg' with hg'
      injection hg' with _ e2 _
      exact ht e2.symm
theorem WC.Is.kp {W W' : World} {y : WC} {r : Rw} (h : y.Is W r) (k : Kp 63 W W') (k' : Kp 118 W W') : y.Is W' r := ⟨h.1.heap k k', RatV.kp h.2 k'⟩
theorem info_row : (Try.prog.info? 65).map (fun i => (i.zero, i.size, i.bytes)) = some (some (.agg #[.slice none 0 0, .int .i64 0, .slice none 0 0, .int .i64 0, .slice none 0 0, .bool false]), 6, 96) := by kernel_rfl
/-- append(out, l...), l of at most one row. -/
theorem appw {W : World} {base n m c : Nat} {v : Value} {R R2 : List Rw} {A : Option Addr} (h : OwnW W base v n R) (hr : RdW W A m R2) (hm : m ≤ 1) (hn : n ≤ 1000) (hc : A = none → c = 0) (hb : base ≤ W.heap.size) :
    ∃ v' W', (Builtin.append_ #[85, 85] 85 #[v, .slice A m c]).run Try.prog W = .ok v' W' ∧ OwnW W' base v' (n + m) (R ++ R2) ∧ W.grownBy W' v.ownBlock := by
  obtain ⟨i0, hi, hz0, hz1, hz2⟩ := info_parts info_row
  obtain ⟨l, h1, h2, h3, h4⟩ := h
  have key : ∀ (a : Addr) (l2 : List WC), A = some a → l2.length = m → (∀ j u, (wcl l2)[j]? = some u → W.cell? (a.add j) = some u) → (∀ j, j < m → (l2.getD j WC.zero).Is W (R2.getD j ([], 0))) → (∀ u ∈ wcl l2, u.oneCell' = true) →
      ∃ v' W', (Builtin.append_ #[85, 85] 85 #[v, .slice A m c]).run Try.prog W = .ok v' W' ∧ OwnW W' base v' (n + m) (R ++ R2) ∧ W.grownBy W' v.ownBlock := by
    intro a l2 hA hl2 hnews his h1c
    subst hA
    obtain ⟨v', W', hrun, r1, r2, _⟩ := run_append_own (P := Try.prog) W base 85 85 65 i0 _ 6 96 Try.underlying85 hi hz0 hz1 hz2 rfl (by decide) v n (wcl l) h1 a m c (wcl l2) (by rw [wcl_len, hl2]) hnews h1c (by simp only [maxLen]; omega) (by omega) hb
    have k1 := kp_grown (t := 63) h1 r2 (by decide)
    have k2 := kp_grown (t := 118) h1 r2 (by decide)
    refine ⟨v', W', hrun, ⟨l ++ l2, by rw [wcl_app]; exact r1, by rw [List.length_append, h2, hl2], by rw [List.length_append, h3, hr.1], fun j hj => ?_⟩, r2⟩
    rcases Nat.lt_or_ge j n with h5 | h5
    · rw [show (l ++ l2).getD j WC.zero = l.getD j WC.zero by rw [List.getD_eq_getElem?_getD, List.getElem?_append_left (by omega), ← List.getD_eq_getElem?_getD], show (R ++ R2).getD j ([], 0) = R.getD j ([], 0) by rw [List.getD_eq_getElem?_getD, List.getElem?_append_left (by omega), ← List.getD_eq_getElem?_getD]]
      exact (h4 j h5).kp k1 k2
    · rw [show (l ++ l2).getD j WC.zero = l2.getD (j - n) WC.zero by rw [List.getD_eq_getElem?_getD, List.getElem?_append_right (by omega), h2, ← List.getD_eq_getElem?_getD], show (R ++ R2).getD j ([], 0) = R2.getD (j - n) ([], 0) by rw [List.getD_eq_getElem?_getD, List.getElem?_append_right (by omega), h3, ← List.getD_eq_getElem?_getD]]
      exact (his (j - n) (by omega)).kp k1 k2
  rcases Nat.eq_zero_or_pos m with h0 | h0
  · subst h0
    have hR2 : R2 = [] := List.eq_nil_of_length_eq_zero hr.1
    cases A with
    | some a => exact key a [] rfl rfl (fun j u hu => by simp [wcl] at hu) (fun j hj => absurd hj (by omega)) (fun u hu => by simp [wcl] at hu)
    | none =>
      subst hR2
      have e0 := hc rfl
      subst e0
      refine ⟨v, W, run_append_owned_none (P := Try.prog) W base 85 85 65 i0 6 Try.underlying85 hi v n (wcl l) h1, ?_, ⟨rfl, rfl, rfl, Nat.le_refl _, fun _ _ _ => rfl⟩⟩
      rw [List.append_nil]
      exact ⟨l, h1, h2, h3, h4⟩
  · obtain ⟨g, off, hA, hg, hcc⟩ := hr.2.2 h0
    have hm1 : m = 1 := by omega
    subst hm1
    obtain ⟨A', n', c', x, b, h6, h7⟩ := hcc 0 (by omega)
    rw [Nat.zero_mul, Nat.add_zero] at h6
    refine key ⟨g, off, none⟩ [⟨A', n', c', x, b⟩] hA rfl (fun j u hu => ?_) (fun j hj => ?_) (fun u hu => ?_)
    · have hj : j < 6 := by
        have := (List.getElem?_eq_some_iff.1 hu).1
        rw [wcl_len] at this
        simpa using this
      obtain ⟨e0, e1, e2, e3, e4, e5⟩ := h6
      match j, hj with
      | 0, _ => cases hu; exact e0
      | 1, _ => cases hu; exact e1
      | 2, _ => cases hu; exact e2
      | 3, _ => cases hu; exact e3
      | 4, _ => cases hu; exact e4
      | 5, _ => cases hu; exact e5
    · have : j = 0 := by omega
      subst this
      exact h7
    · simp [wcl, WC.cells] at hu
      rcases hu with rfl | rfl | rfl | rfl | rfl | rfl <;> rfl
end Go.Proofs.Ytjmbpeniibdnoaa

namespace Go.Proofs.Ytjmbpeniibdnoaa
open Go.RowKit

/-- The rows at a leading variable: one or none. -/
def oneW (o : Option Rw) : List Rw := match o with
  | none => []
  | some q => [q]
/-- The array of the rows by their leading variable: eight slices of at most one row. -/
structure SL where
  A : Option Addr
  m : Nat
  c : Nat
def SL.Is (w : World) (s : SL) (o : Option Rw) : Prop := RdW w s.A s.m (oneW o) ∧ s.m ≤ 1 ∧ (s.A = none → s.c = 0)
def slv (s : SL) : Value := .slice s.A s.m s.c
def flatU (B : Nat → Option Rw) (k : Nat) : List Rw := (List.range k).filterMap B
theorem flatU_succ (B : Nat → Option Rw) (k : Nat) : flatU B (k + 1) = flatU B k ++ oneW (B k) := by
  unfold flatU
  rw [List.range_succ, List.filterMap_append]
  cases h : B k with
  | none => simp [h, oneW]
  | some q => simp [h, oneW]
theorem flatU_len (B : Nat → Option Rw) (k : Nat) : (flatU B k).length ≤ k := by
  induction k with
  | zero => exact Nat.le_refl _
  | succ k ih =>
    rw [flatU_succ, List.length_append]
    cases h : B k with
    | none => simp [oneW]; omega
    | some q => simp [oneW]; omega

theorem wpList_ap {P : Program} {w : World} {ops : Array Oper} {rest : List Oper} {o : Oper} {a : Act} {Q : Exit → Act → World → Prop} (hg : o.guard = none) (s x : Operand) (t : TypeId) (ho : o.op = Op.call { callee := Callee.builtin Builtin.append, args := #[s, x], argTypes := #[t, t] })
    (S X : Value) (hs : a.eval s = S) (hx : a.eval x = X) (ty : TypeId) (hty : o.type = ty) (v : Value) (w' : World) (hrun : (Builtin.append_ #[t, t] ty #[S, X]).run P w = .ok v w') (h : wpList P ops Q rest (a.put o.dst v) w') : wpList P ops Q (o :: rest) a w := by
  subst hty
  refine wpList_plain hg fun K hK' => ?_
  unfold Oper.wp
  simp [execOp, ho, resolve, invoke, builtin, hs, hx, hrun, Result.andThen]
  exact hK' _ _ h
/-- The type of the array. -/
abbrev BY : TypeId := 111
theorem by8 {w : World} {g : Nat} {s : Nat → SL} (h : w.heap[g]? = some (.cells #[slv (s 0), slv (s 1), slv (s 2), slv (s 3), slv (s 4), slv (s 5), slv (s 6), slv (s 7)] BY (0, 0))) (k : Nat) (hk : k < 8) : w.cell? ⟨g, k, none⟩ = some (.slice (s k).A (s k).m (s k).c) := by
  have e := blk_cell h
  match k, hk with
  | 0, _ => exact (e 0).1
  | 1, _ => exact (e 1).1
  | 2, _ => exact (e 2).1
  | 3, _ => exact (e 3).1
  | 4, _ => exact (e 4).1
  | 5, _ => exact (e 5).1
  | 6, _ => exact (e 6).1
  | 7, _ => exact (e 7).1
set_option maxHeartbeats 40000000 in
set_option maxRecDepth 100000 in
theorem flat_calls (n : Nat) (hn : n ≤ 8) (B : Nat → Option Rw) (s : Nat → SL) (w : World) (h : ∀ k, k < 8 → (s k).Is w (B k)) :
    Calls Try.prog 67 #[.int .i64 n, .agg #[slv (s 0), slv (s 1), slv (s 2), slv (s 3), slv (s 4), slv (s 5), slv (s 6), slv (s 7)]] w fun e w' => (∃ A m c, e = .returned (.slice A m c) ∧ RdW w' A m (flatF n B)) ∧ Below w.heap.size w w' := by
  go_enter Try.func67, Try.ntmps67
  go_upto_region 1 with (fail)
  have B0 := bl_alloc (Below.refl w.heap.size w) (.cells #[slv (s 0), slv (s 1), slv (s 2), slv (s 3), slv (s 4), slv (s 5), slv (s 6), slv (s 7)] BY)
  have a1 : (w.alloc (.cells #[slv (s 0), slv (s 1), slv (s 2), slv (s 3), slv (s 4), slv (s 5), slv (s 6), slv (s 7)] BY)).heap[w.heap.size]? = some (.cells #[slv (s 0), slv (s 1), slv (s 2), slv (s 3), slv (s 4), slv (s 5), slv (s 6), slv (s 7)] BY (0, 0)) := blk_at _ rfl
  have O0 := OwnW.nil (w.alloc (.cells #[slv (s 0), slv (s 1), slv (s 2), slv (s 3), slv (s 4), slv (s 5), slv (s 6), slv (s 7)] BY)) (w.heap.size + 1)
  generalize w.alloc (.cells #[slv (s 0), slv (s 1), slv (s 2), slv (s 3), slv (s 4), slv (s 5), slv (s 6), slv (s 7)] BY) = W0 at *
  go_wp2_with fail
  go_loopw [5, 8] (fun v i wr => ∃ (kk m : Nat), kk ≤ n ∧ i = .int .i64 kk ∧ OwnW wr (w.heap.size + 1) v m (flatU B kk) ∧ wr.heap[w.heap.size]? = some (.cells #[slv (s 0), slv (s 1), slv (s 2), slv (s 3), slv (s 4), slv (s 5), slv (s 6), slv (s 7)] BY (0, 0)) ∧ Below w.heap.size w wr) (fun _ i _ => n - (intOf i).toNat)
  case atStart => exact ⟨0, 0, Nat.zero_le _, rfl, O0, a1, B0⟩
  case round =>
    clear a1 B0 O0
    obtain ⟨kk, m, hkk, rfl, OW, a1, B0⟩ := hrel
    by_cases hlt : kk < n
    · have hk8 : kk < 8 := by omega
      have c1 := by8 a1 kk hk8
      have hs := h kk hk8
      have hm := OW.choose_spec.2.2.1
      have hfl := flatU_len B kk
      obtain ⟨v', W', hrun, O2, hgr⟩ := appw OW (hs.1.below B0) hs.2.1 (by omega) hs.2.2 (by have := blk_lt a1; omega)
      have HR := Lib.hid hrun
      have HO := Lib.hid O2
      have HG := Lib.hid hgr
      clear hrun O2 hgr hs h hm hfl
      have hk0 : (0 : Int) ≤ (kk : Int) := by omega
      have hk8' : (kk : Int) < 8 := by omega
      generalize (s kk).A = sA at *
      generalize (s kk).m = sm at *
      generalize (s kk).c = sc at *
      have hOB : ∀ b, u5.ownBlock = some b → w.heap.size + 1 ≤ b := fun b hb => (OW.choose_spec.1.lt b hb).1
      have V1 : Hid (W'.heap[w.heap.size]? = some (.cells #[slv (s 0), slv (s 1), slv (s 2), slv (s 3), slv (s 4), slv (s 5), slv (s 6), slv (s 7)] BY (0, 0))) := Lib.hid (by
        rw [HG.out.block _ (blk_lt a1) (fun e => by have := hOB _ e.symm; omega)]
        exact a1)
      have V2 : Hid (Below w.heap.size w W') := Lib.hid (below_of_grown B0 HG.out B0.size (fun b hb => by have := hOB b hb; omega))
      have V3 : Hid (OwnW W' (w.heap.size + 1) v' (m + sm) (flatU B (kk + 1))) := Lib.hid (by rw [flatU_succ]; exact HO.out)
      clear HO HG hOB OW B0
      go_wp2_with (at_builtin; refine wpList_ap rfl (.tmp 11) (.tmp 14) 85 (by rfl) _ _ (by rfl) (by rfl) _ (by rfl) _ _ HR.out ?_)
      go_roundw
      case rel => exact ⟨kk + 1, m + sm, hlt, by go_num, V3.out, V1.out, V2.out⟩
      case measure => simp [intOf]; omega
    · have hkn : kk = n := by omega
      subst hkn
      have hm := OW.choose_spec.2.2.1
      have hfl := flatU_len B kk
      obtain ⟨A, c, rfl, hrd⟩ := OW.rd (by omega)
      have HRD := Lib.hid hrd
      clear hm hfl OW hrd h
      go_wp2
      go_ret
      exact ⟨⟨A, m, c, rfl, HRD.out⟩, B0⟩
end Go.Proofs.Ytjmbpeniibdnoaa
