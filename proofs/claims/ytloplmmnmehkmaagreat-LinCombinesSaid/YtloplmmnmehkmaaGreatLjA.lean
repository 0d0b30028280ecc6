/- Slices of numbers; reference: All. lin: Forms. lin: all over forms, forms. num: Outs. lin: Echelon, Solve. lin: Solve. Reference 02: memory; small, ValidForm, ValidPoint, Rats, divisor. Reference 02: small laws. Equal forms, equal lists: the comparisons answer true. awake: the examples of the chapter; few. Reference 02: rows, typed; To, divisor, Primed. Reference 02: Times. Reference 02: Plus, Minus. Reference 02: Lead, ValidForms, All. Reference 02: Clear. Reference 02: Solved: plain law. -/
import Derived.Test.YtloplmmnmehkmaaGreatLjR
import Derived.Test.YtloplmmnmehkmaaGreatMemA
import Derived.Test.YtloplmmnmehkmaaGreatRowB
set_option linter.unusedVariables false
set_option linter.unusedSimpArgs false
namespace Go.Proofs.YtloplmmnmehkmaaGreat
open Go.RowKit

def I64 (t l : Int) : Prop := (-9223372036854775808 ≤ t ∧ t ≤ 9223372036854775807) ∧ (-9223372036854775808 ≤ l ∧ l ≤ 9223372036854775807)
/-- A slice of numbers. -/
def RdN (w : World) (A : Option Addr) (n : Nat) (xs : List (Int × Int)) : Prop :=
 xs.length = n ∧ n ≤ 9223372036854775807 ∧ (0 < n → ∃ g off, A = some ⟨g, off, none⟩ ∧ g < w.heap.size ∧ ∀ j, j < n → w.cell? ⟨g, off + j * 2, none⟩ = some (.int .i64 (xs.getD j (0, 0)).1) ∧ w.cell? ⟨g, off + j * 2 + 1, none⟩ = some (.int .i64 (xs.getD j (0, 0)).2))
theorem RdN.below {w w' : World} {A : Option Addr} {n : Nat} {xs : List (Int × Int)} (h : RdN w A n xs) (hb : Below w.heap.size w w') : RdN w' A n xs := by
 refine ⟨h.1, h.2.1, fun hn => ?_⟩
 obtain ⟨g, off, e, hg, hc⟩ := h.2.2 hn
 exact ⟨g, off, e, Nat.lt_of_lt_of_le hg hb.size, fun j hj => ⟨by rw [(cells_below hb).1 g _ hg]; exact (hc j hj).1, by rw [(cells_below hb).1 g _ hg]; exact (hc j hj).2⟩⟩
theorem RdN.bl {w w0 w' : World} {A : Option Addr} {n : Nat} {xs : List (Int × Int)} (h : RdN w A n xs) (hb : Below w.heap.size w w') : RdN w' A n xs := h.below hb
theorem RdN.two {W : World} {g : Nat} {t l t' l' : Int} {fr : Nat × Nat} (h : W.heap[g]? = some (.cells #[.int .i64 t, .int .i64 l, .int .i64 t', .int .i64 l'] 56 fr)) : RdN W (some ⟨g, 0, none⟩) 2 [(t, l), (t', l')] := by
 refine ⟨rfl, by omega, fun _ => ⟨g, 0, rfl, blk_lt h, fun j hj => ?_⟩⟩
 match j, hj with
 | 0, _ => exact ⟨by simp [World.cell?, h], by simp [World.cell?, h]⟩
 | 1, _ => exact ⟨by simp [World.cell?, h], by simp [World.cell?, h]⟩
def I64s (xs : List (Int × Int)) : Prop := ∀ x ∈ xs, I64 x.1 x.2
theorem I64s.at {xs : List (Int × Int)} (h : I64s xs) (k : Nat) (hk : k < xs.length) : I64 (xs.getD k (0, 0)).1 (xs.getD k (0, 0)).2 := by
 have : xs.getD k (0, 0) = xs[k] := by rw [List.getD_eq_getElem?_getD, List.getElem?_eq_getElem hk]; rfl
 rw [this]
 exact h _ (List.getElem_mem hk)
def OkNs (xs : List (Int × Int)) : Prop := ∀ x ∈ xs, OkN x.1 x.2
instance (xs : List (Int × Int)) : Decidable (OkNs xs) := by unfold OkNs; infer_instance
theorem OkNs.at {xs : List (Int × Int)} (h : OkNs xs) (k : Nat) (hk : k < xs.length) : OkN (xs.getD k (0, 0)).1 (xs.getD k (0, 0)).2 := by
 have : xs.getD k (0, 0) = xs[k] := by rw [List.getD_eq_getElem?_getD, List.getElem?_eq_getElem hk]; rfl
 rw [this]
 exact h _ (List.getElem_mem hk)
theorem OkNs.of {xs : List (Int × Int)} (h : ∀ k, k < xs.length → OkN (xs.getD k (0, 0)).1 (xs.getD k (0, 0)).2) : OkNs xs := by
 intro x hx
 obtain ⟨k, hk, rfl⟩ := List.getElem_of_mem hx
 have := h k hk
 rw [List.getD_eq_getElem?_getD, List.getElem?_eq_getElem hk] at this
 exact this
theorem OkNs.two (t l t' l' : Int) : OkNs [(t, l), (t', l')] ↔ OkN t l ∧ OkN t' l' := by
 unfold OkNs
 simp

set_option maxHeartbeats 8000000 in
set_option maxRecDepth 100000 in
theorem rall_calls (A : Option Addr) (n c : Nat) (xs : List (Int × Int)) (w : World) (h : RdN w A n xs) (hi : I64s xs) :
  Calls Tryz.prog 60 #[.slice A n c] w fun e w' => e = .returned (.bool (decide (OkNs xs))) ∧ Below w.heap.size w w' := by
 have L := Lib.hid h.1
 have hn := h.2.1
 generalize hB : decide (OkNs xs) = B
 have HB := Lib.hid hB
 clear hB
 go_enter Tryz.func60, Tryz.ntmps60
 go_wp2_with fail
 go_loopw [7] (fun i wr => ∃ k : Nat, k ≤ n ∧ i = .int .i64 k ∧ (∀ j, j < k → OkN (xs.getD j (0, 0)).1 (xs.getD j (0, 0)).2) ∧ Below w.heap.size w wr) (fun i _ => n - (intOf i).toNat)
 case atStart => exact ⟨0, Nat.zero_le _, rfl, fun j hj => absurd hj (by omega), Below.refl _ _⟩
 case round =>
  obtain ⟨k, hk, rfl, hall, hBw⟩ := hrel
  have HALL := Lib.hid hall
  clear hall
  by_cases hlt : k < n
  ·have hr := h.below hBw
   obtain ⟨g, off, rfl, hg, hc⟩ := hr.2.2 (by omega)
   obtain ⟨c1, c2⟩ := hc k hlt
   have i64 := Lib.hid (hi.at k (by rw [L.out]; exact hlt))
   clear hc hr h
   generalize hx1 : (xs.getD k (0, 0)).1 = x1 at *
   generalize hx2 : (xs.getD k (0, 0)).2 = x2 at *
   have HX1 := Lib.hid hx1
   have HX2 := Lib.hid hx2
   clear hx1 hx2
   go_wp2_with fail
   refine (rvalid_calls x1 x2 _ i64.out.1.1 i64.out.1.2 i64.out.2.1 i64.out.2.2).mono ?_
   rintro e w1 ⟨he, hB1⟩
   replace hBw := bl_then (bl_alloc hBw _) hB1
   clear hB1 c1 c2
   by_cases hok : OkN x1 x2
   ·rw [decide_eq_true hok] at he
    subst he
    replace hok := Lib.hid hok
    go_wp2
    go_roundw
    case rel =>
     refine ⟨k + 1, hlt, by go_num, ?_, hBw⟩
     intro j hj
     rcases Nat.lt_or_ge j k with h1 | h1
     ·exact HALL.out j h1
     ·have : j = k := by omega
      subst this
      rw [HX1.out, HX2.out]
      exact hok.out
    case measure => simp [intOf]; omega
   ·rw [decide_eq_false hok] at he
    subst he
    have hf : B = false := by
     rw [← HB.out, decide_eq_false]
     intro hh
     have := hh.at k (by rw [L.out]; exact hlt)
     rw [HX1.out, HX2.out] at this
     exact hok this
    subst hf
    go_wp2
    go_ret
    exact ⟨rfl, hBw⟩
  ·have hf : B = true := by
    rw [← HB.out, decide_eq_true]
    exact OkNs.of fun j hj => HALL.out j (by rw [L.out] at hj; omega)
   subst hf
   go_wp2
   go_ret
   exact ⟨rfl, hBw⟩

end Go.Proofs.YtloplmmnmehkmaaGreat

namespace Go.Proofs.YtloplmmnmehkmaaGreat
open Go.RowKit

def fsOk (R : List Rw) : Prop := ∀ r ∈ R, outOk r
instance (R : List Rw) : Decidable (fsOk R) := by unfold fsOk; infer_instance
def fsE (R : List Rw) : Int := if fsOk R then 0 else 3
def fsF (R : List Rw) : List Fm := if fsOk R then R.map outW else []
set_option maxHeartbeats 40000000
set_option maxRecDepth 100000
theorem lforms_calls (A : Option Addr) (m c : Nat) (R : List Rw) (w : World) (h : RdW w A m R) (hm : m ≤ 500) :
  Calls Tryz.prog 45 #[.slice A m c] w fun e w' => (∃ A' n' c', e = .returned (.tuple #[.slice A' n' c', .int .i64 (fsE R)]) ∧ RdF w' A' n' (fsF R)) ∧ Below w.heap.size w w' := by
 have L := Lib.hid h.1
 have NO : ¬ fsOk R → fsE R = 3 ∧ fsF R = [] := fun h => ⟨if_neg h, if_neg h⟩
 have YES : fsOk R → fsE R = 0 ∧ fsF R = R.map outW := fun h => ⟨if_pos h, if_pos h⟩
 generalize fsE R = e9 at *
 generalize fsF R = F9 at *
 go_enter Tryz.func45, Tryz.ntmps45
 have O0 := Kind.Own.nil (K := KF) w w.heap.size
 have B0 := Below.refl w.heap.size w
 go_wp2_with fail
 go_loopw [4, 11] (fun v i wr => ∃ kk : Nat, kk ≤ m ∧ i = .int .i64 kk ∧ (∀ j, j < kk → outOk (R.getD j ([], 0))) ∧ KF.Own wr w.heap.size v kk ((R.take kk).map outW) ∧ Below w.heap.size w wr) (fun _ i _ => m - (intOf i).toNat)
 case atStart => exact ⟨0, Nat.zero_le _, rfl, fun j hj => absurd hj (by omega), O0, B0⟩
 case round =>
  clear O0 B0
  obtain ⟨kk, hkk, rfl, hall, OW, B0⟩ := hrel
  have HALL := Lib.hid hall
  clear hall
  by_cases hlt : kk < m
  ·obtain ⟨g, off, rfl, hg, hc⟩ := (h.below B0).2.2 (by omega)
   obtain ⟨A1, n1, c1', x1, b1, ⟨p1, p2, p3, p4, p5, p6⟩, c3⟩ := hc kk hlt
   have E := Lib.hid (map_take_succ outW R ([], 0) kk (by rw [L.out]; exact hlt))
   have HMEM := Lib.hid (mem_getD (d := (([], 0) : Rw)) (by rw [L.out]; exact hlt : kk < R.length))
   clear hc h
   generalize hr1 : R.getD kk ([], 0) = r1 at *
   have HR1 := Lib.hid hr1
   clear hr1
   have c4 := c3.below (bl_alloc (Below.refl _ _) (.cells #[.slice A1 n1 c1', .int .i64 x1.v, .slice x1.A x1.n x1.c, .int .i64 x1.v', .slice x1.A' x1.n' x1.c', .bool b1] 90))
   replace OW := OW.below KF.ok (bl_alloc (Below.refl _ _) (.cells #[.slice A1 n1 c1', .int .i64 x1.v, .slice x1.A x1.n x1.c, .int .i64 x1.v', .slice x1.A' x1.n' x1.c', .bool b1] 90))
   replace B0 := bl_alloc B0 (.cells #[.slice A1 n1 c1', .int .i64 x1.v, .slice x1.A x1.n x1.c, .int .i64 x1.v', .slice x1.A' x1.n' x1.c', .bool b1] 90)
   go_wp2_with fail
   refine (lout_calls A1 n1 c1' x1 b1 r1 _ c4).mono ?_
   rintro e w1 ⟨⟨v2, he, A2, n2, c2', rfl, t2⟩, hB1⟩
   replace OW := OW.below KF.ok hB1
   replace B0 := bl_then B0 hB1
   clear hB1 p1 p2 p3 p4 p5 p6 c3 c4 hg
   by_cases hok : outOk r1
   ·rw [decide_eq_true hok] at he
    subst he
    rw [show outF r1 = outW r1 from if_pos hok] at t2 ⊢
    have HOK := Lib.hid hok
    clear hok
    generalize outW r1 = f2 at *
    replace OW := OW.below KF.ok (bl_alloc (Below.refl _ _) (.cells #[.slice A2 n2 c2', .int .i64 f2.2] 44))
    replace B0 := bl_alloc B0 (.cells #[.slice A2 n2 c2', .int .i64 f2.2] 44)
    replace OW := OW.below KF.ok (bl_alloc (Below.refl _ _) (.cells #[.slice A2 n2 c2', .int .i64 f2.2] 44))
    have B1 := bl_alloc B0 (.cells #[.slice A2 n2 c2', .int .i64 f2.2] 44)
    replace t2 := t2.below (bl_alloc (bl_alloc (Below.refl _ _) (.cells #[.slice A2 n2 c2', .int .i64 f2.2] 44)) (.cells #[.slice A2 n2 c2', .int .i64 f2.2] 44))
    obtain ⟨v', W', hrun, O2, hgr⟩ := appg1 (c := 1) (g := w1.heap.size + 1) KF.ok 22 _ 32 info_form Tryz.underlying22 rfl (by omega) OW ⟨A2, n2, c2', f2.2⟩ f2 _ (blk_at _ (by simp)) rfl ⟨t2, rfl⟩ (by omega) B1.size
    rw [← E.out] at O2
    have HR := Lib.hid hrun
    have HO := Lib.hid O2
    have hOB := OW.ge
    have V2 : Hid (Below w.heap.size w W') := Lib.hid (below_of_grown B1 hgr B1.size hOB)
    clear hrun O2 hgr hOB OW t2 B1
    go_wp2_with (at_builtin; refine wpList_ap rfl (.tmp 22) (.tmp 24) 22 (by rfl) _ _ (by rfl) (by rfl) _ (by rfl) _ _ HR.out ?_)
    go_roundw
    case rel =>
     refine ⟨kk + 1, hlt, by go_num, ?_, HO.out, V2.out⟩
     intro j hj
     rcases Nat.lt_or_ge j kk with h1 | h1
     ·exact HALL.out j h1
     ·have : j = kk := by omega
      subst this
      rw [HR1.out]
      exact HOK.out
    case measure => simp [intOf]; omega
   ·rw [decide_eq_false hok] at he
    subst he
    rw [show outF r1 = ([], 0) from if_neg hok] at t2 ⊢
    obtain ⟨rfl, rfl⟩ := NO fun hh => hok (hh _ HMEM.out)
    have B1 := bl_alloc B0 (.cells #[.slice A2 n2 c2', .int .i64 0] 44)
    go_wp2
    go_ret2
    exact ⟨⟨none, 0, 0, rfl, RdF.nil _ _⟩, B1⟩
  ·have hkn : kk = m := by omega
   subst hkn
   have hok : fsOk R := all_of_getD (p := outOk) fun j hj => HALL.out j (by rw [L.out] at hj; omega)
   obtain ⟨rfl, rfl⟩ := YES hok
   obtain ⟨A', c', rfl, hrd⟩ := KF.rdF OW (by omega)
   rw [List.take_of_length_le (by rw [L.out]; exact Nat.le_refl _)] at hrd
   have HRD := Lib.hid hrd
   clear OW hrd YES NO
   go_wp2
   go_ret2
   exact ⟨⟨A', _, c', rfl, HRD.out⟩, B0⟩
end Go.Proofs.YtloplmmnmehkmaaGreat

namespace Go.Proofs.YtloplmmnmehkmaaGreat
open Go.RowKit

set_option maxHeartbeats 40000000
set_option maxRecDepth 100000
theorem formlit_calls (n : Int) (gn : Nat) (A : Option Addr) (m c : Nat) (f : Fm) (w : World) (h : RdC w A m f.1) (hb : w.heap[gn]? = some (.cells #[.int .i64 n] 3 (0, 0))) :
  Calls Tryz.prog 94 #[.agg #[.slice A m c, .int .i64 f.2], .pointer (some ⟨gn, 0, none⟩)] w fun e w' => e = .returned (.bool (decide (OkF n f))) ∧ Below w.heap.size w w' := by
 go_enter Tryz.func94, Tryz.ntmps94
 have B0 := bl_alloc (Below.refl w.heap.size w) (.cells #[.slice A m c, .int .i64 f.2] 44)
 have b1 := (blk_cell (blk_below hb B0) 0).1
 go_wp2_with fail
 refine (validform_calls n A m c f _ (h.below B0)).mono ?_
 rintro e w1 ⟨rfl, hB1⟩
 replace B0 := bl_then B0 hB1
 go_wp2
 go_ret
 exact ⟨rfl, B0⟩
def okAll (n : Int) (F : List Fm) : Prop := ∀ f ∈ F, OkF n f
instance (n : Int) (F : List Fm) : Decidable (okAll n F) := by unfold okAll; infer_instance
theorem allform_calls (n : Int) (gn : Nat) (A : Option Addr) (m c : Nat) (F : List Fm) (w : World) (h : RdF w A m F) (hb : w.heap[gn]? = some (.cells #[.int .i64 n] 3 (0, 0))) :
  Calls Tryz.prog 93 #[.slice A m c, .func (.func 94) #[] #[.pointer (some ⟨gn, 0, none⟩)]] w fun e w' => e = .returned (.bool (decide (okAll n F))) ∧ Below w.heap.size w w' := by
 have L := Lib.hid h.1
 have hn := h.2.1
 generalize hB : decide (okAll n F) = B
 have HB := Lib.hid hB
 clear hB
 go_enter Tryz.func93, Tryz.ntmps93
 go_wp2_with fail
 go_loopw [9] (fun i wr => ∃ k : Nat, k ≤ m ∧ i = .int .i64 k ∧ (∀ j, j < k → OkF n (F.getD j ([], 0))) ∧ Below w.heap.size w wr) (fun i _ => m - (intOf i).toNat)
 case atStart => exact ⟨0, Nat.zero_le _, rfl, fun j hj => absurd hj (by omega), Below.refl _ _⟩
 case round =>
  obtain ⟨k, hk, rfl, hall, hBw⟩ := hrel
  have HALL := Lib.hid hall
  clear hall
  by_cases hlt : k < m
  ·obtain ⟨g, off, rfl, hg, hc⟩ := (h.below hBw).2.2 (by omega)
   obtain ⟨A', n', c', c1, c2, c3⟩ := hc k hlt
   clear hc
   generalize hx1 : F.getD k ([], 0) = f1 at *
   have HX1 := Lib.hid hx1
   clear hx1
   have B0 := bl_alloc hBw (.cells #[.slice A' n' c', .int .i64 f1.2] 44)
   replace c3 := c3.below (bl_alloc (Below.refl _ _) (.cells #[.slice A' n' c', .int .i64 f1.2] 44))
   have b1 := blk_below hb B0
   go_wp2_with fail
   refine (formlit_calls n gn A' n' c' f1 _ c3 b1).mono ?_
   rintro e w1 ⟨he, hB1⟩
   replace B0 := bl_then B0 hB1
   clear hB1 c1 c2 c3 b1 hBw
   by_cases hok : OkF n f1
   ·rw [decide_eq_true hok] at he
    subst he
    replace hok := Lib.hid hok
    go_wp2
    go_roundw
    case rel =>
     refine ⟨k + 1, hlt, by go_num, ?_, B0⟩
     intro j hj
     rcases Nat.lt_or_ge j k with h1 | h1
     ·exact HALL.out j h1
     ·have : j = k := by omega
      subst this
      rw [HX1.out]
      exact hok.out
    case measure => simp [intOf]; omega
   ·rw [decide_eq_false hok] at he
    subst he
    have hf : B = false := by
     rw [← HB.out, decide_eq_false]
     intro hh
     have := hh _ (mem_getD (d := ([], 0)) (by rw [L.out]; exact hlt) : F.getD k ([], 0) ∈ F)
     rw [HX1.out] at this
     exact hok this
    subst hf
    go_wp2
    go_ret
    exact ⟨rfl, B0⟩
  ·have hf : B = true := by
    rw [← HB.out, decide_eq_true]
    exact all_of_getD fun j hj => HALL.out j (by rw [L.out] at hj; omega)
   subst hf
   go_wp2
   go_ret
   exact ⟨rfl, hBw⟩
theorem forms_calls (n : Int) (A : Option Addr) (m c : Nat) (F : List Fm) (w : World) (h : RdF w A m F) :
  Calls Tryz.prog 42 #[.int .i64 n, .slice A m c] w fun e w' => e = .returned (.bool (decide (OkFs n F))) ∧ Below w.heap.size w w' := by
 have L := Lib.hid h.1
 have hmf : ∀ (fn : Fn) (first cap : Array Value) (w : World), (Instr.makeFunc fn first cap).run Tryz.prog w = .ok (.func fn first cap) w := fun _ _ _ _ => rfl
 generalize hB : decide (OkFs n F) = B
 have HB := Lib.hid hB
 clear hB
 have NO : ¬ OkFs n F → B = false := fun h => by rw [← HB.out, decide_eq_false h]
 go_enter Tryz.func42, Tryz.ntmps42
 have B0 := bl_alloc (Below.refl w.heap.size w) (.cells #[.int .i64 n] 3)
 have a1 : (w.alloc (.cells #[.int .i64 n] 3)).heap[w.heap.size]? = some (.cells #[.int .i64 n] 3 (0, 0)) := blk_at _ rfl
 go_upto_region 1 with (fail)
 generalize w.alloc (.cells #[.int .i64 n] 3) = W0 at *
 have c1 := (blk_cell a1 0).1
 go_wp2_with fail
 refine (dim_calls n _).mono ?_
 rintro e w1 ⟨he, hB1⟩
 replace a1 := blk_below a1 hB1
 replace B0 := bl_then B0 hB1
 clear hB1 c1
 have c1 := (blk_cell a1 0).1
 by_cases hd : dimO n
 ·rw [decide_eq_true hd] at he
  subst he
  by_cases hl : (m : Int) ≤ 120
  ·have hl' : decide ((m : Int) ≤ 120) = true := decide_eq_true hl
   go_wp2_with fail
   refine (allform_calls n w.heap.size A m c F _ (h.below B0) a1).mono ?_
   rintro e w2 ⟨he, hB1⟩
   replace B0 := bl_then B0 hB1
   clear hB1 c1
   have : decide (okAll n F) = B := by
    rw [← HB.out]
    apply decide_eq_decide.2
    exact ⟨fun hm => ⟨hd, by rw [L.out]; omega, hm⟩, fun hm => hm.2.2⟩
   rw [this] at he
   subst he
   go_wp2
   go_ret
   exact ⟨rfl, B0⟩
  ·have hf := NO fun hh => hl (by have := hh.2.1; rw [L.out] at this; omega)
   subst hf
   have hl' : decide ((m : Int) ≤ 120) = false := decide_eq_false hl
   go_wp2
   go_ret
   exact ⟨rfl, B0⟩
 ·rw [decide_eq_false hd] at he
  subst he
  have hf := NO fun hh => hd hh.1
  subst hf
  go_wp2
  go_ret
  exact ⟨rfl, B0⟩
end Go.Proofs.YtloplmmnmehkmaaGreat

namespace Go.Proofs.YtloplmmnmehkmaaGreat
open Go.RowKit

/-- Numbers. -/
def KN : Kind (Int × Int) (Int × Int) := ⟨fun y => [.int .i64 y.1, .int .i64 y.2], 2, 56, fun w y x => y = x, (0, 0), (0, 0)⟩
theorem KN.ok : KN.Ok := ⟨fun _ => rfl, by decide, fun y u hu => by simp [KN] at hu; rcases hu with rfl | rfl <;> rfl, fun W W' y r h k => h, fun W W' y r h k => h⟩
theorem info_num : (Tryz.prog.info? KN.E).map (fun i => (i.zero, i.size, i.bytes)) = some (some (.agg #[.int .i64 0, .int .i64 0]), KN.sz, 16) := by kernel_rfl
theorem KN.rdN {w : World} {base n : Nat} {v : Value} {X : List (Int × Int)} (h : KN.Own w base v n X) (hn : n ≤ 1000000) : ∃ A c, v = .slice A n c ∧ RdN w A n X := by
 obtain ⟨A, c, rfl, h1, h2, _, h3⟩ := h.rd KN.ok
 refine ⟨A, c, rfl, h1, by omega, fun hp => ?_⟩
 obtain ⟨g, cs, rfl, hg, hc⟩ := h3 hp
 refine ⟨g, 0, rfl, blk_lt hg, fun j hj => ?_⟩
 obtain ⟨y, hy, hi⟩ := hc j hj
 have k0 := hy 0 (by decide)
 have k1 := hy 1 (by decide)
 have hi' : y = X.getD j (0, 0) := hi
 subst hi'
 rw [Nat.zero_add]
 exact ⟨k0, k1⟩
def outP (q : Rat) : Int × Int := (q.num, (q.den : Int))
def osOk (X : List Rat) : Prop := ∀ q ∈ X, Fits q
instance (X : List Rat) : Decidable (osOk X) := by unfold osOk; infer_instance
def osE (X : List Rat) : Int := if osOk X then 0 else 3
def osF (X : List Rat) : List (Int × Int) := if osOk X then X.map outP else []
set_option maxHeartbeats 40000000
set_option maxRecDepth 100000
theorem RdN.nil (w : World) (A : Option Addr) : RdN w A 0 [] := ⟨rfl, by omega, fun h => absurd h (by omega)⟩
theorem outs_calls (A : Option Addr) (m c : Nat) (R : List Rat) (w : World) (h : RdQ w A m R) (hm : m ≤ 500) :
  Calls Tryz.prog 53 #[.slice A m c] w fun e w' => (∃ A' n' c', e = .returned (.tuple #[.slice A' n' c', .int .i64 (osE R)]) ∧ RdN w' A' n' (osF R)) ∧ Below w.heap.size w w' := by
 have L := Lib.hid h.1
 have NO : ¬ osOk R → osE R = 3 ∧ osF R = [] := fun h => ⟨if_neg h, if_neg h⟩
 have YES : osOk R → osE R = 0 ∧ osF R = R.map outP := fun h => ⟨if_pos h, if_pos h⟩
 generalize osE R = e9 at *
 generalize osF R = F9 at *
 go_enter Tryz.func53, Tryz.ntmps53
 have O0 := Kind.Own.nil (K := KN) w w.heap.size
 have B0 := Below.refl w.heap.size w
 go_wp2_with fail
 go_loopw [4, 11] (fun v i wr => ∃ kk : Nat, kk ≤ m ∧ i = .int .i64 kk ∧ (∀ j, j < kk → Fits (R.getD j 0)) ∧ KN.Own wr w.heap.size v kk ((R.take kk).map outP) ∧ Below w.heap.size w wr) (fun _ i _ => m - (intOf i).toNat)
 case atStart => exact ⟨0, Nat.zero_le _, rfl, fun j hj => absurd hj (by omega), O0, B0⟩
 case round =>
  clear O0 B0
  obtain ⟨kk, hkk, rfl, hall, OW, B0⟩ := hrel
  have HALL := Lib.hid hall
  clear hall
  by_cases hlt : kk < m
  ·obtain ⟨g, off, rfl, hg, hc⟩ := (h.below B0).2.2.1 (by omega)
   obtain ⟨x1, ⟨p1, p2, p3, p4⟩, c3⟩ := hc kk hlt
   have E := Lib.hid (map_take_succ outP R 0 kk (by rw [L.out]; exact hlt))
   have HMEM := Lib.hid (mem_getD (d := (0 : Rat)) (by rw [L.out]; exact hlt : kk < R.length))
   clear hc h
   generalize hr1 : R.getD kk 0 = r1 at *
   have HR1 := Lib.hid hr1
   clear hr1
   have c4 := c3.below (bl_alloc (Below.refl _ _) (.cells #[.int .i64 x1.v, .slice x1.A x1.n x1.c, .int .i64 x1.v', .slice x1.A' x1.n' x1.c'] 88))
   replace OW := OW.below KN.ok (bl_alloc (Below.refl _ _) (.cells #[.int .i64 x1.v, .slice x1.A x1.n x1.c, .int .i64 x1.v', .slice x1.A' x1.n' x1.c'] 88))
   replace B0 := bl_alloc B0 (.cells #[.int .i64 x1.v, .slice x1.A x1.n x1.c, .int .i64 x1.v', .slice x1.A' x1.n' x1.c'] 88)
   go_wp2_with fail
   refine (out_calls x1.v x1.A x1.n x1.c x1.v' x1.A' x1.n' x1.c' r1 _ c4).mono ?_
   rintro e w1 ⟨he, hB1⟩
   unfold NumR at he
   replace OW := OW.below KN.ok hB1
   replace B0 := bl_then B0 hB1
   clear hB1 p1 p2 p3 p4 c3 c4 hg
   by_cases hok : Fits r1
   ·rw [show outT r1 = (outP r1).1 from if_pos hok, show outL r1 = (outP r1).2 from if_pos hok, show outE r1 = 0 from if_pos hok] at he
    subst he
    have HOK := Lib.hid hok
    clear hok
    generalize outP r1 = f2 at *
    replace OW := OW.below KN.ok (bl_alloc (Below.refl _ _) (.cells #[.int .i64 f2.1, .int .i64 f2.2] 56))
    replace B0 := bl_alloc B0 (.cells #[.int .i64 f2.1, .int .i64 f2.2] 56)
    replace OW := OW.below KN.ok (bl_alloc (Below.refl _ _) (.cells #[.int .i64 f2.1, .int .i64 f2.2] 56))
    have B1 := bl_alloc B0 (.cells #[.int .i64 f2.1, .int .i64 f2.2] 56)
    obtain ⟨v', W', hrun, O2, hgr⟩ := appg1 (c := 1) (g := w1.heap.size + 1) KN.ok 28 _ 16 info_num Tryz.underlying28 rfl (by omega) OW f2 f2 _ (blk_at _ (by simp)) rfl rfl (by omega) B1.size
    rw [← E.out] at O2
    have HR := Lib.hid hrun
    have HO := Lib.hid O2
    have hOB := OW.ge
    have V2 : Hid (Below w.heap.size w W') := Lib.hid (below_of_grown B1 hgr B1.size hOB)
    clear hrun O2 hgr hOB OW B1
    go_wp2_with (at_builtin; refine wpList_ap rfl (.tmp 23) (.tmp 25) 28 (by rfl) _ _ (by rfl) (by rfl) _ (by rfl) _ _ HR.out ?_)
    go_roundw
    case rel =>
     refine ⟨kk + 1, hlt, by go_num, ?_, HO.out, V2.out⟩
     intro j hj
     rcases Nat.lt_or_ge j kk with h1 | h1
     ·exact HALL.out j h1
     ·have : j = kk := by omega
      subst this
      rw [HR1.out]
      exact HOK.out
    case measure => simp [intOf]; omega
   ·rw [show outT r1 = 0 from if_neg hok, show outL r1 = 0 from if_neg hok, show outE r1 = 3 from if_neg hok] at he
    subst he
    obtain ⟨rfl, rfl⟩ := NO fun hh => hok (hh _ HMEM.out)
    have B1 := bl_alloc B0 (.cells #[.int .i64 0, .int .i64 0] 56)
    go_wp2
    go_ret2
    exact ⟨⟨none, 0, 0, rfl, RdN.nil _ _⟩, B1⟩
  ·have hkn : kk = m := by omega
   subst hkn
   have hok : osOk R := all_of_getD (p := Fits) fun j hj => HALL.out j (by rw [L.out] at hj; omega)
   obtain ⟨rfl, rfl⟩ := YES hok
   obtain ⟨A', c', rfl, hrd⟩ := KN.rdN OW (by omega)
   rw [List.take_of_length_le (by rw [L.out]; exact Nat.le_refl _)] at hrd
   have HRD := Lib.hid hrd
   clear OW hrd YES NO
   go_wp2
   go_ret2
   exact ⟨⟨A', _, c', rfl, HRD.out⟩, B0⟩
end Go.Proofs.YtloplmmnmehkmaaGreat

namespace Go.Proofs.YtloplmmnmehkmaaGreat
open Go.RowKit

/-- What lin.Echelon hands back. -/
def echF (n : Int) (F : List Fm) : List Fm × Bool × Int :=
 if OkFs n F then match rowsF n.toNat (F.map rowF) with
  | none => ([], false, 0)
  | some R => (fsF R, fsE R == 0, fsE R)
 else ([], false, 1)
def solX (n : Nat) (R : List Rw) : List Rat := R.foldl (fun x q => x.set (ldF q.1) (-(q.2 / q.1.getD (ldF q.1) 0))) (List.replicate n 0)
/-- What lin.Solve hands back. -/
def solF (n : Int) (F : List Fm) : List (Int × Int) × Bool × Int :=
 if OkFs n F then match rowsF n.toNat (F.map rowF) with
  | none => ([], false, 0)
  | some R => (osF (solX n.toNat R), osE (solX n.toNat R) == 0, osE (solX n.toNat R))
 else ([], false, 1)
theorem kR_a : kR 61 17851 8 ≤ 100000000 := by decide
theorem kR_b : kR 17851 17851 1 ≤ 100000000 := by decide
/-- The rows of valid forms. -/
theorem okf_rows {n : Nat} {F : List Fm} (h : OkFs n F) : (∀ r ∈ F.map rowF, r.1.length = n) ∧ (∀ r ∈ F.map rowF, SzW 61 r) ∧
  ∀ kk, kk ≤ F.length → ∀ B, runF n (fun _ => none) ((F.map rowF).take kk) = some B → Inv n B (((F.map rowF).take kk).map rv) ∧ ∀ k q, B k = some q → SzW 17851 q := by
 refine ⟨fun r hr => ?_, fun r hr => ?_, fun kk hkk B hB => ?_⟩
 ·obtain ⟨f, hf, rfl⟩ := List.mem_map.1 hr
  have := (h.2.2 f hf).2.1
  simp [rowF]; omega
 ·obtain ⟨f, hf, rfl⟩ := List.mem_map.1 hr
  exact rowF_sz (h.2.2 f hf)
 ·rw [← List.map_take] at hB ⊢
  exact run_sz (by have := h.1.2; omega) (F.take kk) (fun f hf => h.2.2 f (List.mem_of_mem_take hf)) hB 17851 (by rw [eB8]; omega)
theorem okf_R {n : Nat} {F : List Fm} (h : OkFs n F) {R : List Rw} (hR : rowsF n (F.map rowF) = some R) : R.length ≤ n ∧ ∀ q ∈ R, q.1.length = n ∧ ldF q.1 < n ∧ q.1.getD (ldF q.1) 0 ≠ 0 ∧ SzW 17851 q := by
 unfold rowsF at hR
 cases e : runF n (fun _ => none) (F.map rowF) with
 | none => rw [e] at hR; cases hR
 | some B =>
  rw [e] at hR
  cases hR
  have h1 := (okf_rows h).2.2 F.length (Nat.le_refl _) B (by rw [List.take_of_length_le (by rw [List.length_map]; exact Nat.le_refl _)]; exact e)
  refine ⟨flatU_len B n, fun q hq => ?_⟩
  have h2 := h1.1.flat q hq
  obtain ⟨k, _, ek⟩ := mem_flat.1 hq
  exact ⟨h2.1, h2.2, ldF_ne q.1 (by omega), h1.2 k q ek⟩
set_option maxHeartbeats 40000000
set_option maxRecDepth 100000
theorem lech_calls (n : Int) (A : Option Addr) (m c : Nat) (F : List Fm) (w : World) (h : RdF w A m F) (hi : ∀ f ∈ F, I64F f) (hl : ∀ f ∈ F, f.1.length ≤ 1000000) (hm : m ≤ 500) :
  Calls Tryz.prog 11 #[.int .i64 n, .slice A m c] w fun e w' => (∃ A' m' c', e = .returned (.tuple #[.slice A' m' c', .bool (echF n F).2.1, .int .i64 (echF n F).2.2]) ∧ RdF w' A' m' (echF n F).1) ∧ Below w.heap.size w w' := by
 have L := Lib.hid h.1
 have HI := Lib.hid hi
 have HL := Lib.hid hl
 have NO : ¬ OkFs n F → echF n F = ([], false, 1) := fun hh => if_neg hh
 have YES : OkFs n F → echF n F = match rowsF n.toNat (F.map rowF) with | none => ([], false, 0) | some R => (fsF R, fsE R == 0, fsE R) := fun hh => if_pos hh
 generalize echF n F = E9 at *
 clear hi hl
 go_enter Tryz.func11, Tryz.ntmps11
 go_wp2_with fail
 refine (forms_calls n A m c F _ h).mono ?_
 rintro e w1 ⟨he, hB1⟩
 by_cases hok : OkFs n F
 ·rw [decide_eq_true hok] at he
  subst he
  obtain ⟨nn, rfl⟩ : ∃ nn : Nat, n = nn := ⟨n.toNat, by have := hok.1.1; omega⟩
  have Y := YES hok
  have HOK := Lib.hid hok
  rw [Int.toNat_natCast] at Y
  have HY := Lib.hid Y
  have hn8 : nn ≤ 8 := by have := hok.1.2; omega
  clear YES NO hok Y
  go_wp2_with fail
  refine (rows_calls A m c F _ (h.below hB1) HI.out HL.out hm).mono ?_
  rintro e w2 ⟨⟨A2, c2, rfl, hr2⟩, hB2⟩
  have B2 := bl_then hB1 hB2
  clear hB1 hB2
  go_wp2_with fail
  refine (lrows_calls nn hn8 A2 m c2 (F.map rowF) _ hr2 hm (okf_rows HOK.out).1 17851 61 (okf_rows HOK.out).2.1 (fun kk hkk => (okf_rows HOK.out).2.2 kk (by rw [L.out]; exact hkk)) kR_a kR_b (by omega) (by omega)).mono ?_
  rintro e w3 ⟨⟨A3, m3, c3, he, hr3⟩, hB3⟩
  have B3 := bl_then B2 hB3
  clear B2 hB3
  cases hR : rowsF nn (F.map rowF) with
  | none =>
   rw [hR] at he
   subst he
   have hy := HY.out
   rw [hR] at hy
   dsimp only at hy
   subst hy
   clear HY hR
   simp only [Option.isSome_none]
   go_wp2
   go_ret3
   exact ⟨⟨none, 0, ⟨0, rfl⟩, RdF.nil _ _⟩, B3⟩
  | some R =>
   rw [hR] at he hr3
   subst he
   have hy := HY.out
   rw [hR] at hy
   dsimp only at hy
   subst hy
   have hRl := (okf_R HOK.out hR).1
   have hm3 := hr3.1
   simp only [Option.getD_some] at hm3 hr3
   clear HY hR
   simp only [Option.isSome_some]
   go_wp2_with fail
   refine (lforms_calls A3 m3 c3 R _ hr3 (by omega)).mono ?_
   rintro e w4 ⟨⟨A4, m4, c4, rfl, hr4⟩, hB4⟩
   have B4 := bl_then B3 hB4
   clear hB4 B3
   go_wp2
   go_ret3
   exact ⟨⟨A4, m4, ⟨c4, rfl⟩, hr4⟩, B4⟩
 ·rw [decide_eq_false hok] at he
  subst he
  have hy := NO hok
  subst hy
  clear YES NO hok
  go_wp2
  go_ret3
  exact ⟨⟨none, 0, ⟨0, rfl⟩, RdF.nil _ _⟩, hB1⟩
end Go.Proofs.YtloplmmnmehkmaaGreat

namespace Go.Proofs.YtloplmmnmehkmaaGreat
open Go.RowKit

set_option maxHeartbeats 40000000
set_option maxRecDepth 100000
def solS (x : List Rat) (q : Rw) : List Rat := x.set (ldF q.1) (-(q.2 / q.1.getD (ldF q.1) 0))
theorem solX_snoc (n : Nat) (R : List Rw) (kk : Nat) (hk : kk < R.length) : (R.take (kk + 1)).foldl solS (List.replicate n 0) = solS ((R.take kk).foldl solS (List.replicate n 0)) (R.getD kk ([], 0)) := by
 rw [take_snoc R ([], 0) kk hk, List.foldl_append]; rfl
theorem solX_eq (n : Nat) (R : List Rw) : solX n R = R.foldl solS (List.replicate n 0) := rfl
theorem lsol_calls (n : Int) (A : Option Addr) (m c : Nat) (F : List Fm) (w : World) (h : RdF w A m F) (hi : ∀ f ∈ F, I64F f) (hl : ∀ f ∈ F, f.1.length ≤ 1000000) (hm : m ≤ 500) :
  Calls Tryz.prog 13 #[.int .i64 n, .slice A m c] w fun e w' => (∃ A' m' c', e = .returned (.tuple #[.slice A' m' c', .bool (solF n F).2.1, .int .i64 (solF n F).2.2]) ∧ RdN w' A' m' (solF n F).1) ∧ Below w.heap.size w w' := by
 have L := Lib.hid h.1
 have HI := Lib.hid hi
 have HL := Lib.hid hl
 have NO : ¬ OkFs n F → solF n F = ([], false, 1) := fun hh => if_neg hh
 have YES : OkFs n F → solF n F = match rowsF n.toNat (F.map rowF) with | none => ([], false, 0) | some R => (osF (solX n.toNat R), osE (solX n.toNat R) == 0, osE (solX n.toNat R)) := fun hh => if_pos hh
 generalize solF n F = E9 at *
 clear hi hl
 go_enter Tryz.func13, Tryz.ntmps13
 go_wp2_with fail
 refine (forms_calls n A m c F _ h).mono ?_
 rintro e w1 ⟨he, hB1⟩
 by_cases hok : OkFs n F
 ·rw [decide_eq_true hok] at he
  subst he
  obtain ⟨nn, rfl⟩ : ∃ nn : Nat, n = nn := ⟨n.toNat, by have := hok.1.1; omega⟩
  have Y := YES hok
  have HOK := Lib.hid hok
  rw [Int.toNat_natCast] at Y
  have HY := Lib.hid Y
  have hn8 : nn ≤ 8 := by have := hok.1.2; omega
  clear YES NO hok Y
  go_wp2_with fail
  refine (rows_calls A m c F _ (h.below hB1) HI.out HL.out hm).mono ?_
  rintro e w2 ⟨⟨A2, c2, rfl, hr2⟩, hB2⟩
  have B2 := bl_then hB1 hB2
  clear hB1 hB2
  go_wp2_with fail
  refine (lrows_calls nn hn8 A2 m c2 (F.map rowF) _ hr2 hm (okf_rows HOK.out).1 17851 61 (okf_rows HOK.out).2.1 (fun kk hkk => (okf_rows HOK.out).2.2 kk (by rw [L.out]; exact hkk)) kR_a kR_b (by omega) (by omega)).mono ?_
  rintro e w3 ⟨⟨A3, m3, c3, he, hr3⟩, hB3⟩
  have B3 := bl_then B2 hB3
  clear B2 hB3
  cases hR : rowsF nn (F.map rowF) with
  | none =>
   rw [hR] at he
   subst he
   have hy := HY.out
   rw [hR] at hy
   dsimp only at hy
   subst hy
   clear HY hR
   simp only [Option.isSome_none]
   go_wp2
   go_ret3
   exact ⟨⟨none, 0, ⟨0, rfl⟩, RdN.nil _ _⟩, B3⟩
  | some R =>
   rw [hR] at he hr3
   subst he
   have hy := HY.out
   rw [hR] at hy
   dsimp only at hy
   subst hy
   have hRR := Lib.hid (okf_R HOK.out hR)
   simp only [Option.getD_some] at hr3
   have LR := Lib.hid hr3.1
   have hm3 : m3 ≤ 8 := by have h1 := hRR.out.1; have h2 := LR.out; omega
   clear HY hR
   simp only [Option.isSome_some]
   obtain ⟨cs, hcs, qm⟩ := made_q nn (by omega)
   have OQ := OwnQ.made_at (base := w3.heap.size) (W := w3) nn rfl (Nat.le_refl _) (by omega) cs hcs
   have BW := bl_alloc (Below.refl w3.heap.size w3) (.cells cs 88)
   go_wp2_with fail
   clear qm
   go_loopw [32] (fun i wr => ∃ kk : Nat, kk ≤ m3 ∧ i = .int .i64 kk ∧ OwnQ wr w3.heap.size w3.heap.size nn nn ((R.take kk).foldl solS (List.replicate nn 0)) ∧ Below w3.heap.size w3 wr) (fun i _ => m3 - (intOf i).toNat)
   case atStart => exact ⟨0, Nat.zero_le _, rfl, OQ, BW⟩
   case round =>
    clear OQ BW
    obtain ⟨kk, hkk, rfl, OQ, BW⟩ := hrel
    by_cases hlt : kk < m3
    ·obtain ⟨g, off, rfl, hg, hc⟩ := (hr3.below BW).2.2 (by omega)
     obtain ⟨A1, n1, c1, x1, b1, ⟨p1, p2, p3, p4, p5, p6⟩, t1⟩ := hc kk hlt
     have hmem : R.getD kk ([], 0) ∈ R := mem_getD (by rw [LR.out]; exact hlt)
     obtain ⟨hq1, hld, hcq, hsz⟩ := hRR.out.2 _ hmem
     have hn1 : nn = n1 := by rw [← t1.1.1]; exact hq1.symm
     subst hn1
     have HF : Hid ((R.take (kk + 1)).foldl solS (List.replicate nn 0) = ((R.take kk).foldl solS (List.replicate nn 0)).set (ldF (R.getD kk ([], 0)).1) (-((R.getD kk ([], 0)).2 / (R.getD kk ([], 0)).1.getD (ldF (R.getD kk ([], 0)).1) 0))) := Lib.hid (solX_snoc nn R kk (by rw [LR.out]; exact hlt))
     have HSQ := Lib.hid hsz
     clear hc hmem hsz
     generalize R.getD kk ([], 0) = q1 at *
     have HSC := Lib.hid (HSQ.out.1 (ldF q1.1))
     generalize hldg : ldF q1.1 = ld at *
     have HLD := Lib.hid hldg
     clear hldg
     go_upto_region 10 with (fail)
     have a8 : (wr.alloc (.cells #[.slice A1 nn c1, .int .i64 x1.v, .slice x1.A x1.n x1.c, .int .i64 x1.v', .slice x1.A' x1.n' x1.c', .bool b1] 90)).heap[wr.heap.size]? = some (.cells #[.slice A1 nn c1, .int .i64 x1.v, .slice x1.A x1.n x1.c, .int .i64 x1.v', .slice x1.A' x1.n' x1.c', .bool b1] 90 (0, 0)) := blk_at _ rfl
     replace t1 := t1.below (bl_alloc (Below.refl _ _) (.cells #[.slice A1 nn c1, .int .i64 x1.v, .slice x1.A x1.n x1.c, .int .i64 x1.v', .slice x1.A' x1.n' x1.c', .bool b1] 90))
     replace OQ := OQ.alloc (.cells #[.slice A1 nn c1, .int .i64 x1.v, .slice x1.A x1.n x1.c, .int .i64 x1.v', .slice x1.A' x1.n' x1.c', .bool b1] 90)
     replace BW := bl_alloc BW (.cells #[.slice A1 nn c1, .int .i64 x1.v, .slice x1.A x1.n x1.c, .int .i64 x1.v', .slice x1.A' x1.n' x1.c', .bool b1] 90)
     clear p1 p2 p3 p4 p5 p6 hg
     generalize wr.heap.size = g8 at *
     generalize wr.alloc (.cells #[.slice A1 nn c1, .int .i64 x1.v, .slice x1.A x1.n x1.c, .int .i64 x1.v', .slice x1.A' x1.n' x1.c', .bool b1] 90) = W4 at *
     obtain ⟨⟨f1, f2, f3, f4, f5, f6⟩, f7⟩ := q6 a8
     go_wp2_with fail
     refine (lead_calls A1 nn c1 x1 b1 q1 _ t1).mono ?_
     rintro e W5 ⟨he, hB6⟩
     rw [HLD.out] at he
     subst he
     replace a8 := blk_below a8 hB6
     replace t1 := t1.below hB6
     replace OQ := OQ.below hB6
     replace BW := bl_then BW hB6
     clear f1 f2 f3 f4 f5 f6 f7 hB6
     obtain ⟨gp, op, rfl, lgp, hcp⟩ := t1.1.2.2.1 (by omega)
     obtain ⟨y, ay, hy⟩ := hcp ld hld
     replace hy : RatV W5 y.v y.A y.n y.c y.v' y.A' y.n' y.c' (q1.1.getD ld 0) := hy
     clear hcp
     generalize q1.1.getD ld 0 = cq at *
     have hk0 : (0 : Int) ≤ (ld : Int) := by omega
     have hkn : (ld : Int) < (nn : Int) := by omega
     go_upto_region 11 with (fail)
     have a8_0 := blk_drew a8
     have ay_0 := At4.dr ay
     have hS0 : W5.drew.cell? ⟨g8, 0, none⟩ = some (Value.slice (some ⟨gp, op, none⟩) nn c1) ∧ W5.drew.cell? ⟨g8, 1, none⟩ = some (Value.int .i64 x1.v) ∧ W5.drew.cell? ⟨g8, 2, none⟩ = some (Value.slice x1.A x1.n x1.c) ∧ W5.drew.cell? ⟨g8, 3, none⟩ = some (Value.int .i64 x1.v') ∧ W5.drew.cell? ⟨g8, 4, none⟩ = some (Value.slice x1.A' x1.n' x1.c') ∧ W5.drew.cell? ⟨g8, 5, none⟩ = some (Value.bool b1) ∧ W5.drew.cell? ⟨gp, op + ld * 4, none⟩ = some (Value.int .i64 y.v) ∧ W5.drew.cell? ⟨gp, op + ld * 4 + 1, none⟩ = some (Value.slice y.A y.n y.c) ∧ W5.drew.cell? ⟨gp, op + ld * 4 + 2, none⟩ = some (Value.int .i64 y.v') ∧ W5.drew.cell? ⟨gp, op + ld * 4 + 3, none⟩ = some (Value.slice y.A' y.n' y.c') := qj6 (qx6 (t := 90) a8_0) (at4c ay_0)
     refine wp_region_T (n := 12) (fun W => W.cell? ⟨g8, 0, none⟩ = some (Value.slice (some ⟨gp, op, none⟩) nn c1) ∧ W.cell? ⟨g8, 1, none⟩ = some (Value.int .i64 x1.v) ∧ W.cell? ⟨g8, 2, none⟩ = some (Value.slice x1.A x1.n x1.c) ∧ W.cell? ⟨g8, 3, none⟩ = some (Value.int .i64 x1.v') ∧ W.cell? ⟨g8, 4, none⟩ = some (Value.slice x1.A' x1.n' x1.c') ∧ W.cell? ⟨g8, 5, none⟩ = some (Value.bool b1) ∧ W.cell? ⟨gp, op + ld * 4, none⟩ = some (Value.int .i64 y.v) ∧ W.cell? ⟨gp, op + ld * 4 + 1, none⟩ = some (Value.slice y.A y.n y.c) ∧ W.cell? ⟨gp, op + ld * 4 + 2, none⟩ = some (Value.int .i64 y.v') ∧ W.cell? ⟨gp, op + ld * 4 + 3, none⟩ = some (Value.slice y.A' y.n' y.c')) (by kernel_rfl) ?_
     refine wpT_take (n := 12) (i := 0) (v := ?_) (by decide) (by kernel_rfl) rfl (by kernel_rfl) (by kernel_rfl) (by kernel_rfl) (fun _ _ _ h => h) (Or.inl ⟨by rfl, ?_⟩) hS0 ?_
     rotate_left
     ·intro w' hSw
      (try dsimp only at hSw)
      go_simp
      (try with_reducible rfl)
     try simp only [Act.put, List.setIfInBounds_toArray, List.set_cons_zero, List.set_cons_succ]
     refine wpT_take (n := 12) (i := 1) (v := ?_) (by decide) (by kernel_rfl) rfl (by kernel_rfl) (by kernel_rfl) (by kernel_rfl) (fun _ _ _ h => h) (Or.inl ⟨by rfl, ?_⟩) hS0 ?_
     rotate_left
     ·intro w' hSw
      (try dsimp only at hSw)
      go_simp
      (try with_reducible rfl)
     try simp only [Act.put, List.setIfInBounds_toArray, List.set_cons_zero, List.set_cons_succ]
     refine wpT_take (n := 12) (i := 2) (v := ?_) (by decide) (by kernel_rfl) rfl (by kernel_rfl) (by kernel_rfl) (by kernel_rfl) (fun _ _ _ h => h) (Or.inl ⟨by rfl, ?_⟩) hS0 ?_
     rotate_left
     ·intro w' hSw
      (try dsimp only at hSw)
      go_simp
      (try with_reducible rfl)
     try simp only [Act.put, List.setIfInBounds_toArray, List.set_cons_zero, List.set_cons_succ]
     refine wpT_take (n := 12) (i := 3) (v := ?_) (by decide) (by kernel_rfl) rfl (by kernel_rfl) (by kernel_rfl) (by kernel_rfl) (fun _ _ _ h => h) (Or.inl ⟨by rfl, ?_⟩) hS0 ?_
     rotate_left
     ·intro w' hSw
      (try dsimp only at hSw)
      go_simp
      (try with_reducible rfl)
     try simp only [Act.put, List.setIfInBounds_toArray, List.set_cons_zero, List.set_cons_succ]
     refine wpT_take (n := 12) (i := 4) (v := ?_) (by decide) (by kernel_rfl) rfl (by kernel_rfl) (by kernel_rfl) (by kernel_rfl) (fun _ _ _ h => h) (Or.inl ⟨by rfl, ?_⟩) hS0 ?_
     rotate_left
     ·intro w' hSw
      (try dsimp only at hSw)
      go_simp
      (try with_reducible rfl)
     try simp only [Act.put, List.setIfInBounds_toArray, List.set_cons_zero, List.set_cons_succ]
     refine wpT_take (n := 12) (i := 5) (v := ?_) (by decide) (by kernel_rfl) rfl (by kernel_rfl) (by kernel_rfl) (by kernel_rfl) (fun _ _ _ h => h) (Or.inl ⟨by rfl, ?_⟩) hS0 ?_
     rotate_left
     ·intro w' hSw
      (try dsimp only at hSw)
      go_simp
      (try with_reducible rfl)
     try simp only [Act.put, List.setIfInBounds_toArray, List.set_cons_zero, List.set_cons_succ]
     refine wpT_take (n := 12) (i := 6) (v := ?_) (by decide) (by kernel_rfl) rfl (by kernel_rfl) (by kernel_rfl) (by kernel_rfl) (fun _ _ _ h => h) (Or.inl ⟨by rfl, ?_⟩) hS0 ?_
     rotate_left
     ·intro w' hSw
      (try dsimp only at hSw)
      go_simp
      (try with_reducible rfl)
     try simp only [Act.put, List.setIfInBounds_toArray, List.set_cons_zero, List.set_cons_succ]
     refine wpT_take (n := 12) (i := 7) (v := ?_) (by decide) (by kernel_rfl) rfl (by kernel_rfl) (by kernel_rfl) (by kernel_rfl) (fun _ _ _ h => h) (Or.inl ⟨by rfl, ?_⟩) hS0 ?_
     rotate_left
     ·intro w' hSw
      (try dsimp only at hSw)
      go_simp
      (try with_reducible rfl)
     try simp only [Act.put, List.setIfInBounds_toArray, List.set_cons_zero, List.set_cons_succ]
     refine wpT_take (n := 12) (i := 8) (v := ?_) (by decide) (by kernel_rfl) rfl (by kernel_rfl) (by kernel_rfl) (by kernel_rfl) (fun _ _ _ h => h) (Or.inl ⟨by rfl, ?_⟩) hS0 ?_
     rotate_left
     ·intro w' hSw
      (try dsimp only at hSw)
      go_simp
      (try with_reducible rfl)
     try simp only [Act.put, List.setIfInBounds_toArray, List.set_cons_zero, List.set_cons_succ]
     refine wpT_one (n := 12) (i := 9) (by kernel_rfl) rfl (fun K9 hK9 => ?_)
     go_simp
     refine (rdiv_calls x1.v x1.A x1.n x1.c x1.v' x1.A' x1.n' x1.c' q1.2 y.v y.A y.n y.c y.v' y.A' y.n' y.c' cq _ (RatV.dr t1.2) (RatV.dr hy) 17851 HSQ.out.2 HSC.out (by omega) hcq).mono ?_
     rintro e y1 ⟨⟨v2, A2, n2, c2, v2', A2', n2', c2', rfl, t2⟩, hB1⟩
     have H1 : Below W5.heap.size W5 y1 := bl_then (bl_drew (Below.refl _ _)) hB1
     have a8_1 := blk_below a8 H1
     have ay_1 := At4.below ay lgp H1
     have hS1 : y1.cell? ⟨g8, 0, none⟩ = some (Value.slice (some ⟨gp, op, none⟩) nn c1) ∧ y1.cell? ⟨g8, 1, none⟩ = some (Value.int .i64 x1.v) ∧ y1.cell? ⟨g8, 2, none⟩ = some (Value.slice x1.A x1.n x1.c) ∧ y1.cell? ⟨g8, 3, none⟩ = some (Value.int .i64 x1.v') ∧ y1.cell? ⟨g8, 4, none⟩ = some (Value.slice x1.A' x1.n' x1.c') ∧ y1.cell? ⟨g8, 5, none⟩ = some (Value.bool b1) ∧ y1.cell? ⟨gp, op + ld * 4, none⟩ = some (Value.int .i64 y.v) ∧ y1.cell? ⟨gp, op + ld * 4 + 1, none⟩ = some (Value.slice y.A y.n y.c) ∧ y1.cell? ⟨gp, op + ld * 4 + 2, none⟩ = some (Value.int .i64 y.v') ∧ y1.cell? ⟨gp, op + ld * 4 + 3, none⟩ = some (Value.slice y.A' y.n' y.c') := qj6 (qx6 (t := 90) a8_1) (at4c ay_1)
     refine hK9.out _ _ (fun _ => hS1) (fun _ => ?_)
     clear hK9 K9
     try simp only [Act.put, List.setIfInBounds_toArray, List.set_cons_zero, List.set_cons_succ]
     refine wpT_one (n := 12) (i := 10) (by kernel_rfl) rfl (fun K9 hK9 => ?_)
     go_simp
     refine (rneg_calls v2 A2 n2 c2 v2' A2' n2' c2' _ _ t2).mono ?_
     rintro e y2 ⟨⟨v3, A3, n3, c3, v3', A3', n3', c3', rfl, t3⟩, hB2⟩
     have H2 := bl_then H1 hB2
     have a8_2 := blk_below a8 H2
     have ay_2 := At4.below ay lgp H2
     have hS2 : y2.cell? ⟨g8, 0, none⟩ = some (Value.slice (some ⟨gp, op, none⟩) nn c1) ∧ y2.cell? ⟨g8, 1, none⟩ = some (Value.int .i64 x1.v) ∧ y2.cell? ⟨g8, 2, none⟩ = some (Value.slice x1.A x1.n x1.c) ∧ y2.cell? ⟨g8, 3, none⟩ = some (Value.int .i64 x1.v') ∧ y2.cell? ⟨g8, 4, none⟩ = some (Value.slice x1.A' x1.n' x1.c') ∧ y2.cell? ⟨g8, 5, none⟩ = some (Value.bool b1) ∧ y2.cell? ⟨gp, op + ld * 4, none⟩ = some (Value.int .i64 y.v) ∧ y2.cell? ⟨gp, op + ld * 4 + 1, none⟩ = some (Value.slice y.A y.n y.c) ∧ y2.cell? ⟨gp, op + ld * 4 + 2, none⟩ = some (Value.int .i64 y.v') ∧ y2.cell? ⟨gp, op + ld * 4 + 3, none⟩ = some (Value.slice y.A' y.n' y.c') := qj6 (qx6 (t := 90) a8_2) (at4c ay_2)
     have OQ2 := OQ.below H2
     have o5 := OQ2.frozen (ld * 4)
     have o6 := OQ2.frozen (ld * 4 + 1)
     have o7 := OQ2.frozen (ld * 4 + 2)
     have o8 := OQ2.frozen (ld * 4 + 3)
     obtain ⟨o0, ⟨o1, o2, o3, o4⟩, o9⟩ := OQ2.at ld hld
     refine hK9.out _ _ (fun _ => hS2) (fun _ => ?_)
     clear hK9 K9
     try simp only [Act.put, List.setIfInBounds_toArray, List.set_cons_zero, List.set_cons_succ]
     refine wpT_take (n := 12) (i := 11) (v := ?_) (by decide) (by kernel_rfl) rfl (by kernel_rfl) (by kernel_rfl) (by kernel_rfl) (fun _ _ _ h => h) (Or.inl ⟨by rfl, ?_⟩) hS2 ?_
     rotate_left
     ·intro w' hSw
      (try dsimp only at hSw)
      go_simp
      (try with_reducible rfl)
     try simp only [Act.put, List.setIfInBounds_toArray, List.set_cons_zero, List.set_cons_succ]
     refine wpT_one (n := 12) (i := 12) (by kernel_rfl) rfl (fun K9 hK9 => ?_)
     go_simp
     refine hK9.out _ _ (fun h => absurd rfl h) (fun _ => ?_)
     clear hK9 K9
     try simp only [Act.put, List.setIfInBounds_toArray, List.set_cons_zero, List.set_cons_succ]
     refine wpT_done (by kernel_rfl) ?_ _
     have U1 := Lib.hid (OQ2.set (bl_then BW H2) (Nat.le_refl _) ld hld _ _ _ _ _ _ _ _ _ t3)
     clear o9
     go_wp2
     go_roundw
     case rel => exact ⟨kk + 1, hlt, by go_num, (by rw [HF.out]; exact U1.out.1), U1.out.2⟩
     case measure => simp [intOf]; omega
    ·have hkn : m3 = kk := by omega
     subst hkn
     rw [List.take_of_length_le (by rw [LR.out]; exact Nat.le_refl _), ← solX_eq] at OQ
     have hrd := OwnQ.rd OQ (by omega)
     go_wp2_with fail
     refine (outs_calls _ nn nn (solX nn R) _ hrd (by omega)).mono ?_
     rintro e w4 ⟨⟨A4, m4, c4, rfl, hr4⟩, hB4⟩
     have B4 := bl_then (bl_then B3 BW) hB4
     clear hB4 B3
     go_wp2
     go_ret3
     exact ⟨⟨A4, m4, ⟨c4, rfl⟩, hr4⟩, B4⟩
 ·rw [decide_eq_false hok] at he
  subst he
  have hy := NO hok
  subst hy
  clear YES NO hok
  go_wp2
  go_ret3
  exact ⟨⟨none, 0, ⟨0, rfl⟩, RdN.nil _ _⟩, hB1⟩
end Go.Proofs.YtloplmmnmehkmaaGreat

namespace Go.Proofs.YtloplmmnmehkmaaGreat
open Go.RowKit

/-- The cells of an integer of the reference. -/
structure JC where
 s : Int
 g : Bool
 A : Option Addr
 n : Nat
 c : Nat
def JC.Is (w : World) (x : JC) (z : Int) : Prop := RV w x.s x.g x.A x.n x.c z
def KR : Kind JC Int := ⟨fun y => [.int .i64 y.s, .bool y.g, .slice y.A y.n y.c], 3, 49, JC.Is, ⟨0, false, none, 0, 0⟩, 0⟩
theorem KR.ok : KR.Ok := ⟨fun _ => rfl, by decide, fun y u hu => by simp [KR] at hu; rcases hu with rfl | rfl | rfl <;> rfl, fun W W' y r h k => RV.kp h (k _ (by decide)), fun W W' y r h k => RV.kp h (Kp.below k)⟩
theorem info_rint : (Tryz.prog.info? KR.E).map (fun i => (i.zero, i.size, i.bytes)) = some (some (.agg #[.int .i64 0, .bool false, .slice none 0 0]), KR.sz, 40) := by kernel_rfl
theorem Kind.Own.kps {α β : Type} {K : Kind α β} {W W' : World} {base n : Nat} {v : Value} {R : List β} (ho : K.Own W base v n R) (k : Kp K.E W W') (hI : ∀ y r, K.Is W y r → K.Is W' y r) : K.Own W' base v n R := by
 obtain ⟨l, h1, h2, h3, h4⟩ := ho
 refine ⟨l, ⟨h1.1, ?_⟩, h2, h3, fun j hj => hI _ _ (h4 j hj)⟩
 rcases h1.2 with h0 | ⟨g', cap', cur, hv, hb, hg, r⟩
 ·exact .inl h0
 ·exact .inr ⟨g', cap', cur, hv, hb, k.blk _ _ _ hg, r⟩
/-- A slice of integers of the reference that is read. -/
def RdR (w : World) (A : Option Addr) (n : Nat) (zs : List Int) : Prop :=
 zs.length = n ∧ n ≤ 1000000 ∧ (0 < n → ∃ g, A = some ⟨g, 0, none⟩ ∧ g < w.heap.size ∧ ∀ j, j < n → ∃ x : JC, (w.cell? ⟨g, j * 3, none⟩ = some (.int .i64 x.s) ∧ w.cell? ⟨g, j * 3 + 1, none⟩ = some (.bool x.g) ∧ w.cell? ⟨g, j * 3 + 2, none⟩ = some (.slice x.A x.n x.c)) ∧ x.Is w (zs.getD j 0))
theorem RdR.below {w w' : World} {A : Option Addr} {n : Nat} {zs : List Int} (h : RdR w A n zs) (hb : Below w.heap.size w w') : RdR w' A n zs := by
 refine ⟨h.1, h.2.1, fun hn => ?_⟩
 obtain ⟨g, e, hg, hc⟩ := h.2.2 hn
 refine ⟨g, e, Nat.lt_of_lt_of_le hg hb.size, fun j hj => ?_⟩
 obtain ⟨x, ⟨h1, h2, h3⟩, h4⟩ := hc j hj
 have k := (cells_below hb).1
 exact ⟨x, ⟨(k _ _ hg).trans h1, (k _ _ hg).trans h2, (k _ _ hg).trans h3⟩, RV.kp h4 (Kp.below hb)⟩
theorem KR.rdR {w : World} {base n : Nat} {v : Value} {X : List Int} (h : KR.Own w base v n X) (hn : n ≤ 1000000) : ∃ A c, v = .slice A n c ∧ RdR w A n X := by
 obtain ⟨A, c, rfl, h1, h2, _, h3⟩ := h.rd KR.ok
 refine ⟨A, c, rfl, h1, hn, fun hp => ?_⟩
 obtain ⟨g, cs, rfl, hg, hc⟩ := h3 hp
 refine ⟨g, rfl, blk_lt hg, fun j hj => ?_⟩
 obtain ⟨y, hy, hi⟩ := hc j hj
 exact ⟨y, ⟨hy 0 (by decide), hy 1 (by decide), hy 2 (by decide)⟩, hi⟩
/-- The cells of a rational of the reference. -/
structure JQ where
 s : Int
 g : Bool
 A : Option Addr
 n : Nat
 c : Nat
 s' : Int
 g' : Bool
 A' : Option Addr
 n' : Nat
 c' : Nat
def JQ.Is (w : World) (x : JQ) (q : Rat) : Prop := RRV w x.s x.g x.A x.n x.c x.s' x.g' x.A' x.n' x.c' q
def KP6 : Kind JQ Rat := ⟨fun y => [.int .i64 y.s, .bool y.g, .slice y.A y.n y.c, .int .i64 y.s', .bool y.g', .slice y.A' y.n' y.c'], 6, 51, JQ.Is, ⟨0, false, none, 0, 0, 0, false, none, 0, 0⟩, 0⟩
theorem KP6.ok : KP6.Ok := ⟨fun _ => rfl, by decide, fun y u hu => by simp [KP6] at hu; rcases hu with rfl | rfl | rfl | rfl | rfl | rfl <;> rfl, fun W W' y r h k => RRV.kp h (k _ (by decide)), fun W W' y r h k => RRV.below h k⟩
theorem info_rrat : (Tryz.prog.info? KP6.E).map (fun i => (i.zero, i.size, i.bytes)) = some (some (.agg #[.int .i64 0, .bool false, .slice none 0 0, .int .i64 0, .bool false, .slice none 0 0]), KP6.sz, 80) := by kernel_rfl
def At6q (w : World) (g o : Nat) (x : JQ) : Prop := w.cell? ⟨g, o, none⟩ = some (.int .i64 x.s) ∧ w.cell? ⟨g, o + 1, none⟩ = some (.bool x.g) ∧ w.cell? ⟨g, o + 2, none⟩ = some (.slice x.A x.n x.c) ∧ w.cell? ⟨g, o + 3, none⟩ = some (.int .i64 x.s') ∧ w.cell? ⟨g, o + 4, none⟩ = some (.bool x.g') ∧ w.cell? ⟨g, o + 5, none⟩ = some (.slice x.A' x.n' x.c')
theorem At6q.below {w w' : World} {g o : Nat} {x : JQ} (h : At6q w g o x) (hg : g < w.heap.size) (hb : Below w.heap.size w w') : At6q w' g o x := by
 have k := (cells_below hb).1
 exact ⟨(k _ _ hg).trans h.1, (k _ _ hg).trans h.2.1, (k _ _ hg).trans h.2.2.1, (k _ _ hg).trans h.2.2.2.1, (k _ _ hg).trans h.2.2.2.2.1, (k _ _ hg).trans h.2.2.2.2.2⟩
/-- A slice of rationals of the reference that is read. -/
def RdRR (w : World) (A : Option Addr) (n : Nat) (X : List Rat) : Prop :=
 X.length = n ∧ n ≤ 1000000 ∧ (0 < n → ∃ g, A = some ⟨g, 0, none⟩ ∧ g < w.heap.size ∧ ∀ j, j < n → ∃ x : JQ, At6q w g (j * 6) x ∧ x.Is w (X.getD j 0))
theorem RdRR.below {w w' : World} {A : Option Addr} {n : Nat} {X : List Rat} (h : RdRR w A n X) (hb : Below w.heap.size w w') : RdRR w' A n X := by
 refine ⟨h.1, h.2.1, fun hn => ?_⟩
 obtain ⟨g, e, hg, hc⟩ := h.2.2 hn
 refine ⟨g, e, Nat.lt_of_lt_of_le hg hb.size, fun j hj => ?_⟩
 obtain ⟨x, h1, h4⟩ := hc j hj
 exact ⟨x, h1.below hg hb, RRV.below h4 hb⟩
theorem KP6.rd {w : World} {base n : Nat} {v : Value} {X : List Rat} (h : KP6.Own w base v n X) (hn : n ≤ 1000000) : ∃ A c, v = .slice A n c ∧ RdRR w A n X := by
 obtain ⟨A, c, rfl, h1, h2, _, h3⟩ := Kind.Own.rd KP6.ok h
 refine ⟨A, c, rfl, h1, hn, fun hp => ?_⟩
 obtain ⟨g, cs, rfl, hg, hc⟩ := h3 hp
 refine ⟨g, rfl, blk_lt hg, fun j hj => ?_⟩
 obtain ⟨y, hy, hi⟩ := hc j hj
 exact ⟨y, ⟨hy 0 (by decide), hy 1 (by decide), hy 2 (by decide), hy 3 (by decide), hy 4 (by decide), hy 5 (by decide)⟩, hi⟩
set_option maxHeartbeats 40000000
set_option maxRecDepth 100000
theorem r2small_calls (x : Int) (w : World) :
  Calls Tryz.prog 92 #[.int .i64 x] w fun e w' => e = .returned (.bool (decide (mid x))) ∧ Below w.heap.size w w' := by
 by_cases h1 : x ≤ 1152921504606846976
 ·by_cases h2 : -1152921504606846976 ≤ x
  ·rw [show decide (mid x) = true from decide_eq_true ⟨h2, h1⟩]
   go_enter Tryz.func92, Tryz.ntmps92
   go_wp2
   go_ret
   exact ⟨rfl, Below.refl _ _⟩
  ·rw [show decide (mid x) = false from decide_eq_false fun h => h2 h.1]
   go_enter Tryz.func92, Tryz.ntmps92
   go_wp2
   go_ret
   exact ⟨rfl, Below.refl _ _⟩
 ·rw [show decide (mid x) = false from decide_eq_false fun h => h1 h.2]
  go_enter Tryz.func92, Tryz.ntmps92
  go_wp2
  go_ret
  exact ⟨rfl, Below.refl _ _⟩
theorem r2vform_calls (n : Int) (A : Option Addr) (m c : Nat) (f : Fm) (w : World) (h : RdC w A m f.1) :
  Calls Tryz.prog 41 #[.int .i64 n, .agg #[.slice A m c, .int .i64 f.2]] w fun e w' => e = .returned (.bool (decide (OkF n f))) ∧ Below w.heap.size w w' := by
 have L := Lib.hid h.1
 have hm := h.2.1
 generalize hB : decide (OkF n f) = B
 have HB := Lib.hid hB
 clear hB
 have NO : ¬ OkF n f → B = false := fun h => by rw [← HB.out, decide_eq_false h]
 have YES : OkF n f → B = true := fun h => by rw [← HB.out, decide_eq_true h]
 have HNO := Lib.hid NO
 have HYES := Lib.hid YES
 obtain ⟨l, a⟩ := f
 dsimp only at *
 clear NO YES
 have a1 : (w.alloc (.cells #[.slice A m c, .int .i64 a] 44)).heap[w.heap.size]? = some (.cells #[.slice A m c, .int .i64 a] 44 (0, 0)) := blk_at _ rfl
 have B0 := bl_alloc (Below.refl w.heap.size w) (.cells #[.slice A m c, .int .i64 a] 44)
 by_cases hd : dimO n
 ·have d1 : ¬ n < 0 := by have := hd.1; omega
  have d2 : ¬ 8 < n := by have := hd.2; omega
  have d3 : decide (n < 0) = false := decide_eq_false d1
  have d4 : decide (8 < n) = false := decide_eq_false d2
  by_cases hl : (m : Int) = n
  ·have hl' : ((m : Int) != n) = false := by simp [hl]
   go_enter Tryz.func41, Tryz.ntmps41
   go_wp2_with fail
   refine (r2small_calls a _).mono ?_
   rintro e w1 ⟨he, hB1⟩
   replace a1 := blk_below a1 hB1
   replace B0 := bl_then B0 hB1
   clear hB1
   by_cases ha : mid a
   ·rw [decide_eq_true ha] at he
    subst he
    obtain ⟨g1, g2, g3, g4⟩ := bx2 a1
    go_wp2_with fail
    clear g1 g2 g3 g4
    go_loopw [29] (fun i wr => ∃ k : Nat, k ≤ m ∧ i = .int .i64 k ∧ (∀ j, j < k → mid (l.getD j 0)) ∧ Below w.heap.size w wr) (fun i _ => m - (intOf i).toNat)
    case atStart => exact ⟨0, Nat.zero_le _, rfl, fun j hj => absurd hj (by omega), B0⟩
    case round =>
     clear B0 a1
     obtain ⟨k, hk, rfl, hall, hBw⟩ := hrel
     have HALL := Lib.hid hall
     clear hall
     by_cases hlt : k < m
     ·obtain ⟨g, off, rfl, hg, hc⟩ := (h.below hBw).at_ (by omega)
      have c1 := hc k hlt
      clear hc h
      generalize hx1 : l.getD k 0 = x1 at *
      have HX1 := Lib.hid hx1
      clear hx1
      go_wp2_with fail
      refine (r2small_calls x1 _).mono ?_
      rintro e w1 ⟨he, hB1⟩
      replace hBw := bl_then hBw hB1
      clear hB1 c1
      by_cases hok : mid x1
      ·rw [decide_eq_true hok] at he
       subst he
       replace hok := Lib.hid hok
       go_wp2
       go_roundw
       case rel =>
        refine ⟨k + 1, hlt, by go_num, ?_, hBw⟩
        intro j hj
        rcases Nat.lt_or_ge j k with h1 | h1
        ·exact HALL.out j h1
        ·have : j = k := by omega
         subst this
         rw [HX1.out]
         exact hok.out
       case measure => simp [intOf]; omega
      ·rw [decide_eq_false hok] at he
       subst he
       have hf : B = false := HNO.out fun hh => by
        have := hh.2.2.2 _ (mem_getD (d := 0) (by rw [L.out]; exact hlt) : l.getD k 0 ∈ l)
        rw [HX1.out] at this
        exact hok this
       subst hf
       go_wp2
       go_ret
       exact ⟨rfl, hBw⟩
     ·have hf : B = true := HYES.out ⟨hd, by rw [show ((l, a) : Fm).1.length = m from L.out]; exact hl, ha, all_of_getD fun j hj => HALL.out j (by rw [L.out] at hj; omega)⟩
      subst hf
      go_wp2
      go_ret
      exact ⟨rfl, hBw⟩
   ·rw [decide_eq_false ha] at he
    subst he
    have hf := HNO.out fun hh => ha hh.2.2.1
    subst hf
    go_wp2
    go_ret
    exact ⟨rfl, B0⟩
  ·have hf := HNO.out fun hh => hl (by have := hh.2.1; dsimp only at this; rw [L.out] at this; exact this)
   subst hf
   have hl' : ((m : Int) != n) = true := by simp [hl]
   go_enter Tryz.func41, Tryz.ntmps41
   go_wp2
   go_ret
   exact ⟨rfl, B0⟩
 ·have hf := HNO.out fun hh => hd hh.1
  subst hf
  by_cases d1 : n < 0
  ·go_enter Tryz.func41, Tryz.ntmps41
   go_wp2
   go_ret
   exact ⟨rfl, B0⟩
  ·have d2 : 8 < n := by unfold dimO at hd; omega
   go_enter Tryz.func41, Tryz.ntmps41
   go_wp2
   go_ret
   exact ⟨rfl, B0⟩
end Go.Proofs.YtloplmmnmehkmaaGreat

namespace Go.Proofs.YtloplmmnmehkmaaGreat
open Go.RowKit

theorem q4c {w : World} {g : Nat} {t : TypeId} {a b c d : Value} (h : w.heap[g]? = some (.cells #[a, b, c, d] t (0, 0))) : w.cell? ⟨g, 0, none⟩ = some a ∧ w.cell? ⟨g, 1, none⟩ = some b ∧ w.cell? ⟨g, 2, none⟩ = some c ∧ w.cell? ⟨g, 3, none⟩ = some d ∧ w.frozen? ⟨g, 0, none⟩ = false ∧ w.frozen? ⟨g, 1, none⟩ = false ∧ w.frozen? ⟨g, 2, none⟩ = false ∧ w.frozen? ⟨g, 3, none⟩ = false :=
 ⟨(blk_cell h 0).1, (blk_cell h 1).1, (blk_cell h 2).1, (blk_cell h 3).1, (blk_cell h 0).2, (blk_cell h 1).2, (blk_cell h 2).2, (blk_cell h 3).2⟩
theorem qxr4 {w : World} {g : Nat} {t : TypeId} {a b c d : Value} (h : w.heap[g]? = some (.cells #[a, b, c, d] t (0, 0))) : w.cell? ⟨g, 0, none⟩ = some a ∧ w.cell? ⟨g, 1, none⟩ = some b ∧ w.cell? ⟨g, 2, none⟩ = some c ∧ w.cell? ⟨g, 3, none⟩ = some d := ⟨(blk_cell h 0).1, (blk_cell h 1).1, (blk_cell h 2).1, (blk_cell h 3).1⟩
theorem qj3 {A B C X : Prop} (h : A ∧ B ∧ C) (x : X) : A ∧ B ∧ C ∧ X := ⟨h.1, h.2.1, h.2.2, x⟩
/-- The greatest common divisor so far. -/
def dK (zs : List Int) (z : Int) : Nat → Int
 | 0 => (z.natAbs : Int)
 | k + 1 => (Int.gcd (dK zs z k) (zs.getD k 0) : Int)
theorem dK_sz {zs : List Int} {z : Int} {K : Nat} (h : ∀ j, Sz K (zs.getD j 0)) (hz : Sz K z) (k : Nat) : Sz K (dK zs z k) := by
 induction k with
 | zero => exact hz.le (by show ((z.natAbs : Int)).natAbs ≤ _; omega)
 | succ k ih => exact ih.gcd (h k)
theorem jc_mk {w : World} {s : Int} {b : Bool} {A : Option Addr} {n c : Nat} {z : Int} (h : RV w s b A n c z) : ∃ y : JC, s = y.s ∧ b = y.g ∧ A = y.A ∧ n = y.n ∧ c = y.c ∧ RV w y.s y.g y.A y.n y.c z := ⟨⟨s, b, A, n, c⟩, rfl, rfl, rfl, rfl, rfl, h⟩
theorem RV.al2 {w : World} {s : Int} {b : Bool} {A : Option Addr} {n c : Nat} {z : Int} (h : RV w s b A n c z) (o : Obj) : RV (w.alloc o) s b A n c z := h.kp ((Kp.refl _ _).alloc o)
def pz (g z : Int) : Int := if g = 0 then z else z.tdiv g
theorem getD_take_snoc (f : Int → Int) (zs : List Int) (k : Nat) (hk : k < zs.length) : (zs.take (k + 1)).map f = (zs.take k).map f ++ [f (zs.getD k 0)] := map_take_succ f zs 0 k hk
theorem q4kp {w : World} {g : Nat} {a1 a2 a3 a4 : Value} {t : TypeId} (h : w.heap[g]? = some (.cells #[a1, a2, a3, a4] 60 (0, 0))) (ht : 60 ≠ t) (x1 x2 x3 x4 : Value) : Kp t w ((((w.setCell ⟨g, 0, none⟩ x1).setCell ⟨g, 1, none⟩ x2).setCell ⟨g, 2, none⟩ x3).setCell ⟨g, 3, none⟩ x4) :=
 ((((Kp.refl _ _).set (p := ⟨g, 0, none⟩) h ht x1).set (p := ⟨g, 1, none⟩) (blk_set h 0 x1) ht x2).set (p := ⟨g, 2, none⟩) (blk_set (blk_set h 0 x1) 1 x2) ht x3).set (p := ⟨g, 3, none⟩) (blk_set (blk_set (blk_set h 0 x1) 1 x2) 2 x3) ht x4
theorem r4kp {w : World} {g : Nat} {a1 a2 a3 a4 : Value} {t : TypeId} (h : w.heap[g]? = some (.cells #[a1, a2, a3, a4] 60 (0, 0))) (ht : 60 ≠ t) (x1 x2 x3 : Value) : Kp t w (((w.setCell ⟨g, 1, none⟩ x1).setCell ⟨g, 2, none⟩ x2).setCell ⟨g, 3, none⟩ x3) :=
 (((Kp.refl _ _).set (p := ⟨g, 1, none⟩) h ht x1).set (p := ⟨g, 2, none⟩) (blk_set h 1 x1) ht x2).set (p := ⟨g, 3, none⟩) (blk_set (blk_set h 1 x1) 2 x2) ht x3
theorem RdR.kp {w w' : World} {A : Option Addr} {n : Nat} {zs : List Int} (h : RdR w A n zs) (hc : ∀ g o, A = some ⟨g, 0, none⟩ → w'.cell? ⟨g, o, none⟩ = w.cell? ⟨g, o, none⟩) (hs : w.heap.size ≤ w'.heap.size) (k : Kp 3 w w') : RdR w' A n zs := by
 refine ⟨h.1, h.2.1, fun hn => ?_⟩
 obtain ⟨g, e, hg, hcc⟩ := h.2.2 hn
 refine ⟨g, e, Nat.lt_of_lt_of_le hg hs, fun j hj => ?_⟩
 obtain ⟨x, ⟨h1, h2, h3⟩, h4⟩ := hcc j hj
 exact ⟨x, ⟨(hc g _ e).trans h1, (hc g _ e).trans h2, (hc g _ e).trans h3⟩, RV.kp h4 k⟩
theorem blk_grown {W W' : World} {v : Value} {g bs : Nat} {o : Obj} (hgr : W.grownBy W' v.ownBlock) (h : W.heap[g]? = some o) (hne : ∀ b, v.ownBlock = some b → bs ≤ b) (hg : g < bs) : W'.heap[g]? = some o :=
 (hgr.block g (blk_lt h) (fun e => by have := hne g e.symm; omega)).trans h
theorem mid_sz {z : Int} (h : mid z) : Sz 100 z := by
 unfold Sz mid at *
 exact Nat.lt_of_le_of_lt (show z.natAbs ≤ 1152921504606846976 by omega) (by decide)
theorem okf_sz {n : Int} {f : Fm} (h : OkF n f) (j : Nat) : Sz 100 (f.1.getD j 0) := by
 rcases Nat.lt_or_ge j f.1.length with hj | hj
 ·exact mid_sz (h.2.2.2 _ (mem_getD hj))
 ·rw [List.getD_eq_getElem?_getD, List.getElem?_eq_none hj]; exact mid_sz (by unfold mid; simp)
theorem sclM_int (m : Int) (zs : List Int) : sclM m (zs.map fun x : Int => (x : Rat)) = m := by
 induction zs generalizing m with
 | nil => rfl
 | cons x l ih =>
  show sclM (m * (((x : Rat).den : Int) / (Int.gcd m ((x : Rat).den : Int) : Int))) (l.map fun x : Int => (x : Rat)) = m
  rw [Rat.den_intCast, ih]
  simp
theorem sclO_int (zs : List Int) : sclO 1 (zs.map fun x : Int => (x : Rat)) = zs := by
 unfold sclO
 rw [List.map_map]
 refine (List.map_congr_left fun x _ => ?_).trans (List.map_id zs)
 show (x : Rat).num * (1 / ((x : Rat).den : Int)) = x
 rw [Rat.num_intCast, Rat.den_intCast]
 simp
theorem dK_nn (zs : List Int) (z : Int) (k : Nat) : 0 ≤ dK zs z k := by
 cases k with
 | zero => show 0 ≤ (z.natAbs : Int); omega
 | succ k => show 0 ≤ (Int.gcd _ _ : Int); omega
theorem dK_dvd (zs : List Int) (z : Int) (k : Nat) : dK zs z k ∣ z ∧ ∀ j, j < k → dK zs z k ∣ zs.getD j 0 := by
 induction k with
 | zero => exact ⟨Int.natAbs_dvd.2 (Int.dvd_refl z), fun j hj => absurd hj (by omega)⟩
 | succ k ih =>
  have h1 : dK zs z (k + 1) ∣ dK zs z k := Int.gcd_dvd_left ..
  refine ⟨Int.dvd_trans h1 ih.1, fun j hj => ?_⟩
  rcases Nat.lt_or_ge j k with h | h
  ·exact Int.dvd_trans h1 (ih.2 j h)
  ·have : j = k := by omega
   subst this
   exact Int.gcd_dvd_right ..
theorem dK_great (zs : List Int) (z d : Int) (k : Nat) (hz : d ∣ z) (h : ∀ j, j < k → d ∣ zs.getD j 0) : d ∣ dK zs z k := by
 induction k with
 | zero => exact Int.dvd_natAbs.2 hz
 | succ k ih => exact Int.dvd_coe_gcd (ih fun j hj => h j (by omega)) (h k (by omega))
theorem nn_antisymm {a b : Int} (ha : 0 ≤ a) (hb : 0 ≤ b) (h : a ∣ b) (k : b ∣ a) : a = b := by
 have h1 := Int.natAbs_dvd_natAbs.2 h
 have h2 := Int.natAbs_dvd_natAbs.2 k
 have := Nat.dvd_antisymm h1 h2
 omega
theorem dK_scl (zs : List Int) (z : Int) : sclG 0 (zs ++ [z]) = dK zs z zs.length := by
 obtain ⟨s0, _, s2, s3⟩ := sclG_spec 0 (by omega) (zs ++ [z])
 obtain ⟨d1, d2⟩ := dK_dvd zs z zs.length
 refine nn_antisymm s0 (dK_nn _ _ _) (dK_great _ _ _ _ (s2 z (by simp)) fun j hj => s2 _ (List.mem_append_left _ (mem_getD hj))) (s3 _ (Int.dvd_zero _) fun y hy => ?_)
 rcases List.mem_append.1 hy with h | h
 ·obtain ⟨j, hj, rfl⟩ := List.getElem_of_mem h
  have := d2 j hj
  rwa [List.getD_eq_getElem?_getD, List.getElem?_eq_getElem hj] at this
 ·rw [List.mem_singleton] at h; rw [h]; exact d1
/-- The primitive form. -/
theorem scl_form (f : Fm) : scl ((rowF f).1 ++ [(rowF f).2]) = (f.1 ++ [f.2]).map (pz (dK f.1 f.2 f.1.length)) := by
 have e : (rowF f).1 ++ [(rowF f).2] = (f.1 ++ [f.2]).map fun x : Int => (x : Rat) := by simp [rowF]
 rw [e]
 unfold scl
 simp only
 rw [sclM_int, sclO_int, dK_scl]
 by_cases hg : dK f.1 f.2 f.1.length = 0
 ·rw [if_pos hg]
  refine ((List.map_congr_left fun x _ => ?_).trans (List.map_id _)).symm
  unfold pz; rw [if_pos hg]; rfl
 ·rw [if_neg hg]
  refine List.map_congr_left fun x hx => ?_
  unfold pz
  rw [if_neg hg, Int.tdiv_eq_ediv_of_dvd]
  obtain ⟨d1, d2⟩ := dK_dvd f.1 f.2 f.1.length
  rcases List.mem_append.1 hx with h | h
  ·obtain ⟨j, hj, rfl⟩ := List.getElem_of_mem h
   have := d2 j hj
   rwa [List.getD_eq_getElem?_getD, List.getElem?_eq_getElem hj] at this
  ·rw [List.mem_singleton] at h; rw [h]; exact d1
theorem SzW.mono {k l : Nat} {r : Rw} (h : SzW k r) (e : k ≤ l) : SzW l r := ⟨fun j => (h.1 j).mono e, h.2.mono e⟩
/-- Primed: the primitive form. -/
def pmZ (n : Nat) (r : Fm) : Fm := (r.1.map (pz (dK r.1 r.2 n)), pz (dK r.1 r.2 n) r.2)
theorem prm_form (f : Fm) : prm (rowF f) = rowF (pmZ f.1.length f) := by
 have hl : (rowF f).1.length = f.1.length := by simp [rowF]
 unfold prm
 simp only
 rw [scl_form, hl]
 refine Prod.ext ?_ ?_
 ·show ((((f.1 ++ [f.2]).map (pz (dK f.1 f.2 f.1.length))).take f.1.length).map fun z : Int => (z : Rat)) = (f.1.map (pz (dK f.1 f.2 f.1.length))).map fun x : Int => (x : Rat)
  rw [← List.map_take, List.take_left]
 ·show ((((f.1 ++ [f.2]).map (pz (dK f.1 f.2 f.1.length))).getD f.1.length 0 : Int) : Rat) = ((pz (dK f.1 f.2 f.1.length) f.2 : Int) : Rat)
  rw [getD_map (pz (dK f.1 f.2 f.1.length)) (f.1 ++ [f.2]) f.1.length 0 0 (by simp), getD_app_one f.1 f.2 0 _ rfl]

end Go.Proofs.YtloplmmnmehkmaaGreat

namespace Go.Proofs.YtloplmmnmehkmaaGreat
open Go.RowKit

set_option maxHeartbeats 40000000
set_option maxRecDepth 100000
theorem llist_calls (A : Option Addr) (n c : Nat) (A' : Option Addr) (c' : Nat) (xs : List Int) (w : World) (h : RdC w A n xs) (h' : RdC w A' n xs) :
  Calls Tryz.prog 75 #[.slice A n c, .slice A' n c'] w fun e w' => e = .returned (.bool true) ∧ Below w.heap.size w w' := by
 have hn := h.2.1
 go_enter Tryz.func75, Tryz.ntmps75
 go_wp2_with fail
 go_loopw [13] (fun i wr => ∃ k : Nat, k ≤ n ∧ i = .int .i64 k ∧ Below w.heap.size w wr) (fun i _ => n - (intOf i).toNat)
 case atStart => exact ⟨0, Nat.zero_le _, rfl, Below.refl _ _⟩
 case round =>
  obtain ⟨k, hk, rfl, hBw⟩ := hrel
  by_cases hlt : k < n
  ·have hr := h.below hBw
   have hr' := h'.below hBw
   obtain ⟨g, off, rfl, hg, hc⟩ := hr.2.2 (by omega)
   obtain ⟨g', off', rfl, hg', hc'⟩ := hr'.2.2 (by omega)
   have c1 := hc k hlt
   have d1 := hc' k hlt
   have hk0 : (0 : Int) ≤ (k : Int) := by omega
   have hkn : (k : Int) < (n : Int) := by omega
   clear hc hr h hc' hr' h'
   generalize xs.getD k 0 = x1 at *
   go_wp2_with fail
   go_region_held3 (fun W => W.cell? ⟨g, off + k, none⟩ = some (Value.int .i64 x1) ∧ W.cell? ⟨g', off' + k, none⟩ = some (Value.int .i64 x1)) (first | exact ⟨c1, d1⟩ | go_keep) (fail)
   all_goals
    go_wp2
    go_roundw
    case rel => exact ⟨k + 1, hlt, by go_num, bl_drew hBw⟩
    case measure => simp [intOf]; omega
  ·go_wp2
   go_ret
   exact ⟨rfl, hBw⟩
theorem lnsame_calls (A : Option Addr) (n c : Nat) (A' : Option Addr) (c' : Nat) (xs : List (Int × Int)) (w : World) (h : RdN w A n xs) (h' : RdN w A' n xs) :
  Calls Tryz.prog 18 #[.slice A n c, .slice A' n c'] w fun e w' => e = .returned (.bool true) ∧ Below w.heap.size w w' := by
 have hn := h.2.1
 go_enter Tryz.func18, Tryz.ntmps18
 go_wp2_with fail
 go_loopw [13] (fun i wr => ∃ k : Nat, k ≤ n ∧ i = .int .i64 k ∧ Below w.heap.size w wr) (fun i _ => n - (intOf i).toNat)
 case atStart => exact ⟨0, Nat.zero_le _, rfl, Below.refl _ _⟩
 case round =>
  obtain ⟨k, hk, rfl, hBw⟩ := hrel
  by_cases hlt : k < n
  ·have hr := h.below hBw
   have hr' := h'.below hBw
   obtain ⟨g, off, rfl, hg, hc⟩ := hr.2.2 (by omega)
   obtain ⟨g', off', rfl, hg', hc'⟩ := hr'.2.2 (by omega)
   obtain ⟨c1, c2⟩ := hc k hlt
   obtain ⟨d1, d2⟩ := hc' k hlt
   have hk0 : (0 : Int) ≤ (k : Int) := by omega
   have hkn : (k : Int) < (n : Int) := by omega
   clear hc hr h hc' hr' h'
   generalize (xs.getD k (0, 0)).1 = x1 at *
   generalize (xs.getD k (0, 0)).2 = x2 at *
   go_wp2_with fail
   go_region_held3 (fun W => W.cell? ⟨g, off + k * 2, none⟩ = some (Value.int .i64 x1) ∧ W.cell? ⟨g, off + k * 2 + 1, none⟩ = some (Value.int .i64 x2) ∧ W.cell? ⟨g', off' + k * 2, none⟩ = some (Value.int .i64 x1) ∧ W.cell? ⟨g', off' + k * 2 + 1, none⟩ = some (Value.int .i64 x2)) (first | exact ⟨c1, c2, d1, d2⟩ | go_keep) (fail)
   all_goals
    go_wp2
    go_roundw
    case rel => exact ⟨k + 1, hlt, by go_num, bl_drew hBw⟩
    case measure => simp [intOf]; omega
  ·go_wp2
   go_ret
   exact ⟨rfl, hBw⟩
theorem lsform_calls (A : Option Addr) (n c : Nat) (A' : Option Addr) (c' : Nat) (f : Fm) (w : World) (h : RdC w A n f.1) (h' : RdC w A' n f.1) :
  Calls Tryz.prog 25 #[.agg #[.slice A n c, .int .i64 f.2], .agg #[.slice A' n c', .int .i64 f.2]] w fun e w' => e = .returned (.bool true) ∧ Below w.heap.size w w' := by
 go_enter Tryz.func25, Tryz.ntmps25
 have a1 : ((w.alloc (.cells #[.slice A n c, .int .i64 f.2] 44)).alloc (.cells #[.slice A' n c', .int .i64 f.2] 44)).heap[w.heap.size]? = some (.cells #[.slice A n c, .int .i64 f.2] 44 (0, 0)) := blk_alloc (blk_at _ rfl) _
 have a2 : ((w.alloc (.cells #[.slice A n c, .int .i64 f.2] 44)).alloc (.cells #[.slice A' n c', .int .i64 f.2] 44)).heap[w.heap.size + 1]? = some (.cells #[.slice A' n c', .int .i64 f.2] 44 (0, 0)) := blk_at _ (by simp)
 have B0 := bl_alloc (bl_alloc (Below.refl w.heap.size w) (.cells #[.slice A n c, .int .i64 f.2] 44)) (.cells #[.slice A' n c', .int .i64 f.2] 44)
 obtain ⟨f1, f2, f3, f4⟩ := bx2 a1
 obtain ⟨g1, g2, g3, g4⟩ := bx2 a2
 go_wp2_with fail
 refine (llist_calls A n c A' c' f.1 _ (h.below B0) (h'.below B0)).mono ?_
 rintro e w1 ⟨rfl, hB1⟩
 have B1 := bl_then B0 hB1
 clear f1 f2 f3 f4 g1 g2 g3 g4 a1 a2 B0 hB1
 go_wp2
 go_ret
 exact ⟨rfl, B1⟩
theorem c4_below {w w' : World} {g o g' o' : Nat} {v1 v2 v3 v4 : Value} (hb : Below w.drew.heap.size w.drew w') (hg : g < w.heap.size) (hg' : g' < w.heap.size) (h1 : w.cell? ⟨g, o, none⟩ = some v1) (h2 : w.cell? ⟨g, o + 1, none⟩ = some v2) (h3 : w.cell? ⟨g', o', none⟩ = some v3) (h4 : w.cell? ⟨g', o' + 1, none⟩ = some v4) :
  w'.cell? ⟨g, o, none⟩ = some v1 ∧ w'.cell? ⟨g, o + 1, none⟩ = some v2 ∧ w'.cell? ⟨g', o', none⟩ = some v3 ∧ w'.cell? ⟨g', o' + 1, none⟩ = some v4 := by
 have k := (cells_below hb).1
 exact ⟨(k _ _ hg).trans h1, (k _ _ hg).trans h2, (k _ _ hg').trans h3, (k _ _ hg').trans h4⟩
theorem lsforms_calls (A : Option Addr) (n c : Nat) (A' : Option Addr) (c' : Nat) (F : List Fm) (w : World) (h : RdF w A n F) (h' : RdF w A' n F) :
  Calls Tryz.prog 17 #[.slice A n c, .slice A' n c'] w fun e w' => e = .returned (.bool true) ∧ Below w.heap.size w w' := by
 have hn := h.2.1
 go_enter Tryz.func17, Tryz.ntmps17
 go_wp2_with fail
 go_loopw [13] (fun i wr => ∃ k : Nat, k ≤ n ∧ i = .int .i64 k ∧ Below w.heap.size w wr) (fun i _ => n - (intOf i).toNat)
 case atStart => exact ⟨0, Nat.zero_le _, rfl, Below.refl _ _⟩
 case round =>
  obtain ⟨k, hk, rfl, hBw⟩ := hrel
  by_cases hlt : k < n
  ·have hr := h.below hBw
   have hr' := h'.below hBw
   obtain ⟨g, off, rfl, hg, hc⟩ := hr.2.2 (by omega)
   obtain ⟨g', off', rfl, hg', hc'⟩ := hr'.2.2 (by omega)
   obtain ⟨A1, n1, q1, c1, c2, c3⟩ := hc k hlt
   obtain ⟨A2, n2, q2, d1, d2, d3⟩ := hc' k hlt
   have hn12 : n2 = n1 := by rw [← d3.1, ← c3.1]
   subst hn12
   have hk0 : (0 : Int) ≤ (k : Int) := by omega
   have hkn : (k : Int) < (n : Int) := by omega
   clear hc hr h hc' hr' h'
   generalize F.getD k ([], 0) = f1 at *
   go_wp2_with fail
   go_region_held3 (fun W => W.cell? ⟨g, off + k * 2, none⟩ = some (Value.slice A1 n2 q1) ∧ W.cell? ⟨g, off + k * 2 + 1, none⟩ = some (Value.int .i64 f1.2) ∧ W.cell? ⟨g', off' + k * 2, none⟩ = some (Value.slice A2 n2 q2) ∧ W.cell? ⟨g', off' + k * 2 + 1, none⟩ = some (Value.int .i64 f1.2)) (first | exact ⟨c1, c2, d1, d2⟩ | exact c4_below hB1 hg hg' c1 c2 d1 d2 | go_keep) (first | (go_at_call 25; refine (lsform_calls A1 n2 q1 A2 q2 f1 _ (c3.below (bl_drew (Below.refl _ _))) (d3.below (bl_drew (Below.refl _ _)))).mono ?_; rintro e ww ⟨rfl, hB1⟩; have HB1 := bl_then (bl_drew hBw) hB1) | fail)
   all_goals
    go_wp2
    go_roundw
    case rel => exact ⟨k + 1, hlt, by go_num, HB1⟩
    case measure => simp [intOf]; omega
  ·go_wp2
   go_ret
   exact ⟨rfl, hBw⟩
end Go.Proofs.YtloplmmnmehkmaaGreat

namespace Go.Proofs.YtloplmmnmehkmaaGreat
open Go.RowKit

theorem rdc_two {W : World} {g : Nat} {x y : Int} {t : TypeId} (h : W.heap[g]? = some (.cells #[.int .i64 x, .int .i64 y] t (0, 0))) : RdC W (some ⟨g, 0, none⟩) 2 [x, y] := by
 refine ⟨rfl, by omega, fun _ => ⟨g, 0, rfl, blk_lt h, fun j hj => ?_⟩⟩
 match j, hj with
 | 0, _ => exact (blk_cell h 0).1
 | 1, _ => exact (blk_cell h 1).1
theorem rdf_one {W : World} {g g1 : Nat} {x y a : Int} {t1 t : TypeId} (h : W.heap[g]? = some (.cells #[.slice (some ⟨g1, 0, none⟩) 2 2, .int .i64 a] t (0, 0))) (h1 : W.heap[g1]? = some (.cells #[.int .i64 x, .int .i64 y] t1 (0, 0))) : RdF W (some ⟨g, 0, none⟩) 1 [([x, y], a)] := by
 refine ⟨rfl, by omega, fun _ => ⟨g, 0, rfl, blk_lt h, fun j hj => ?_⟩⟩
 have : j = 0 := by omega
 subst this
 exact ⟨_, _, _, (blk_cell h 0).1, (blk_cell h 1).1, rdc_two h1⟩
theorem rdf_two {W : World} {g g1 g2 : Nat} {x1 y1 a1 x2 y2 a2 : Int} {t1 t2 t : TypeId} (h : W.heap[g]? = some (.cells #[.slice (some ⟨g1, 0, none⟩) 2 2, .int .i64 a1, .slice (some ⟨g2, 0, none⟩) 2 2, .int .i64 a2] t (0, 0))) (h1 : W.heap[g1]? = some (.cells #[.int .i64 x1, .int .i64 y1] t1 (0, 0))) (h2 : W.heap[g2]? = some (.cells #[.int .i64 x2, .int .i64 y2] t2 (0, 0))) : RdF W (some ⟨g, 0, none⟩) 2 [([x1, y1], a1), ([x2, y2], a2)] := by
 refine ⟨rfl, by omega, fun _ => ⟨g, 0, rfl, blk_lt h, fun j hj => ?_⟩⟩
 match j, hj with
 | 0, _ => exact ⟨_, _, _, (blk_cell h 0).1, (blk_cell h 1).1, rdc_two h1⟩
 | 1, _ => exact ⟨_, _, _, (blk_cell h 2).1, (blk_cell h 3).1, rdc_two h2⟩
def exE : List Fm := [([1, 1], -3), ([2, -1], 0)]
def exE' : List Fm := [([1, 0], -1), ([0, 1], -2)]
def exS : List Fm := [([2, 4], -6)]
theorem exE_ok : OkFs 2 exE := by decide
theorem exS_ok : OkFs 2 exS := by decide
theorem exE_rows : rowsF 2 (exE.map rowF) = some [([1, 0], -1), ([0, 1], -2)] := by decide +kernel
theorem exS_rows : rowsF 2 (exS.map rowF) = some [([1, 2], -3)] := by decide +kernel
theorem exE_fs : fsOk [(([1, 0] : List Rat), (-1 : Rat)), ([0, 1], -2)] := by decide +kernel
theorem exE_ech : echF 2 exE = (exE', true, 0) := by
 unfold echF
 rw [if_pos exE_ok, show (2 : Int).toNat = 2 from rfl, exE_rows]
 show (fsF _, fsE _ == 0, fsE _) = _
 unfold fsF fsE
 rw [if_pos exE_fs, if_pos exE_fs]
 decide +kernel
theorem exS_os : osOk (solX 2 [(([1, 2] : List Rat), (-3 : Rat))]) := by decide +kernel
theorem exS_sol : solF 2 exS = ([(3, 1), (0, 1)], true, 0) := by
 unfold solF
 rw [if_pos exS_ok, show (2 : Int).toNat = 2 from rfl, exS_rows]
 show (osF _, osE _ == 0, osE _) = _
 unfold osF osE
 rw [if_pos exS_os, if_pos exS_os]
 decide +kernel
theorem i64f_of {n : Int} {f : Fm} (h : OkF n f) : I64F f := by
 refine ⟨fun x hx => ?_, ?_⟩
 ·have := h.2.2.2 x hx; unfold mid at this; omega
 ·have := h.2.2.1; unfold mid at this; omega
set_option maxHeartbeats 40000000
set_option maxRecDepth 100000
theorem lawake_calls (w : World) : Calls Tryz.prog 10 #[] w fun e w' => e = .returned (.bool true) ∧ Below w.heap.size w w' := by
 have HE := Lib.hid exE_ech
 have HS := Lib.hid exS_sol
 have HCE := Lib.hid (fun A w (h : RdF w A 2 exE) => lech_calls 2 A 2 2 exE w h (fun f hf => i64f_of (exE_ok.2.2 f hf)) (fun f hf => by have := (exE_ok.2.2 f hf).2.1; omega) (by omega))
 have HCS := Lib.hid (fun A w (h : RdF w A 1 exS) => lsol_calls 2 A 1 1 exS w h (fun f hf => i64f_of (exS_ok.2.2 f hf)) (fun f hf => by have := (exS_ok.2.2 f hf).2.1; omega) (by omega))
 rw [HE.out] at HCE
 rw [HS.out] at HCS
 go_enter Tryz.func10, Tryz.ntmps10
 go_wp2_with fail
 have b1 : (((w.alloc (.cells #[.int .i64 1, .int .i64 1] 3)).alloc (.cells #[.int .i64 2, .int .i64 (-1)] 3)).alloc (.cells #[.slice (some ⟨w.heap.size, 0, none⟩) 2 2, .int .i64 (-3), .slice (some ⟨w.heap.size + 1, 0, none⟩) 2 2, .int .i64 0] 44)).heap[w.heap.size]? = some (.cells #[.int .i64 1, .int .i64 1] 3 (0, 0)) := blk_alloc (blk_alloc (blk_at _ rfl) _) _
 have b2 : (((w.alloc (.cells #[.int .i64 1, .int .i64 1] 3)).alloc (.cells #[.int .i64 2, .int .i64 (-1)] 3)).alloc (.cells #[.slice (some ⟨w.heap.size, 0, none⟩) 2 2, .int .i64 (-3), .slice (some ⟨w.heap.size + 1, 0, none⟩) 2 2, .int .i64 0] 44)).heap[w.heap.size + 1]? = some (.cells #[.int .i64 2, .int .i64 (-1)] 3 (0, 0)) := blk_alloc (blk_at _ (by simp)) _
 have b3 : (((w.alloc (.cells #[.int .i64 1, .int .i64 1] 3)).alloc (.cells #[.int .i64 2, .int .i64 (-1)] 3)).alloc (.cells #[.slice (some ⟨w.heap.size, 0, none⟩) 2 2, .int .i64 (-3), .slice (some ⟨w.heap.size + 1, 0, none⟩) 2 2, .int .i64 0] 44)).heap[w.heap.size + 1 + 1]? = some (.cells #[.slice (some ⟨w.heap.size, 0, none⟩) 2 2, .int .i64 (-3), .slice (some ⟨w.heap.size + 1, 0, none⟩) 2 2, .int .i64 0] 44 (0, 0)) := blk_at _ (by simp)
 have B0 := bl_alloc (bl_alloc (bl_alloc (Below.refl w.heap.size w) (.cells #[.int .i64 1, .int .i64 1] 3)) (.cells #[.int .i64 2, .int .i64 (-1)] 3)) (.cells #[.slice (some ⟨w.heap.size, 0, none⟩) 2 2, .int .i64 (-3), .slice (some ⟨w.heap.size + 1, 0, none⟩) 2 2, .int .i64 0] 44)
 refine (HCE.out _ _ (rdf_two b3 b1 b2)).mono ?_
 rintro e w1 ⟨⟨A1, m1, c1, rfl, t1⟩, hB1⟩
 replace B0 := bl_then B0 hB1
 clear b1 b2 b3 hB1 HCE
 go_wp2_with fail
 have b1 : ((w1.alloc (.cells #[.int .i64 2, .int .i64 4] 3)).alloc (.cells #[.slice (some ⟨w1.heap.size, 0, none⟩) 2 2, .int .i64 (-6)] 44)).heap[w1.heap.size]? = some (.cells #[.int .i64 2, .int .i64 4] 3 (0, 0)) := blk_alloc (blk_at _ rfl) _
 have b2 : ((w1.alloc (.cells #[.int .i64 2, .int .i64 4] 3)).alloc (.cells #[.slice (some ⟨w1.heap.size, 0, none⟩) 2 2, .int .i64 (-6)] 44)).heap[w1.heap.size + 1]? = some (.cells #[.slice (some ⟨w1.heap.size, 0, none⟩) 2 2, .int .i64 (-6)] 44 (0, 0)) := blk_at _ (by simp)
 have H1 := bl_alloc (bl_alloc (Below.refl w1.heap.size w1) (.cells #[.int .i64 2, .int .i64 4] 3)) (.cells #[.slice (some ⟨w1.heap.size, 0, none⟩) 2 2, .int .i64 (-6)] 44)
 refine (HCS.out _ _ (rdf_one b2 b1)).mono ?_
 rintro e w2 ⟨⟨A2, m2, c2, rfl, t2⟩, hB2⟩
 replace H1 := bl_then H1 hB2
 replace t1 := t1.below H1
 replace B0 := bl_then B0 H1
 clear b1 b2 hB2 HCS H1
 have hm1 : m1 = 2 := t1.1.symm
 have hm2 : m2 = 2 := t2.1.symm
 subst hm1 hm2
 go_wp2_with fail
 have b1 : (((w2.alloc (.cells #[.int .i64 1, .int .i64 0] 3)).alloc (.cells #[.int .i64 0, .int .i64 1] 3)).alloc (.cells #[.slice (some ⟨w2.heap.size, 0, none⟩) 2 2, .int .i64 (-1), .slice (some ⟨w2.heap.size + 1, 0, none⟩) 2 2, .int .i64 (-2)] 44)).heap[w2.heap.size]? = some (.cells #[.int .i64 1, .int .i64 0] 3 (0, 0)) := blk_alloc (blk_alloc (blk_at _ rfl) _) _
 have b2 : (((w2.alloc (.cells #[.int .i64 1, .int .i64 0] 3)).alloc (.cells #[.int .i64 0, .int .i64 1] 3)).alloc (.cells #[.slice (some ⟨w2.heap.size, 0, none⟩) 2 2, .int .i64 (-1), .slice (some ⟨w2.heap.size + 1, 0, none⟩) 2 2, .int .i64 (-2)] 44)).heap[w2.heap.size + 1]? = some (.cells #[.int .i64 0, .int .i64 1] 3 (0, 0)) := blk_alloc (blk_at _ (by simp)) _
 have b3 : (((w2.alloc (.cells #[.int .i64 1, .int .i64 0] 3)).alloc (.cells #[.int .i64 0, .int .i64 1] 3)).alloc (.cells #[.slice (some ⟨w2.heap.size, 0, none⟩) 2 2, .int .i64 (-1), .slice (some ⟨w2.heap.size + 1, 0, none⟩) 2 2, .int .i64 (-2)] 44)).heap[w2.heap.size + 1 + 1]? = some (.cells #[.slice (some ⟨w2.heap.size, 0, none⟩) 2 2, .int .i64 (-1), .slice (some ⟨w2.heap.size + 1, 0, none⟩) 2 2, .int .i64 (-2)] 44 (0, 0)) := blk_at _ (by simp)
 have H1 := bl_alloc (bl_alloc (bl_alloc (Below.refl w2.heap.size w2) (.cells #[.int .i64 1, .int .i64 0] 3)) (.cells #[.int .i64 0, .int .i64 1] 3)) (.cells #[.slice (some ⟨w2.heap.size, 0, none⟩) 2 2, .int .i64 (-1), .slice (some ⟨w2.heap.size + 1, 0, none⟩) 2 2, .int .i64 (-2)] 44)
 refine (lsforms_calls A1 2 c1 _ 2 exE' _ (t1.below H1) (rdf_two b3 b1 b2)).mono ?_
 rintro e w3 ⟨rfl, hB3⟩
 replace H1 := bl_then H1 hB3
 replace t2 := t2.below H1
 replace B0 := bl_then B0 H1
 clear b1 b2 b3 hB3 H1 t1
 go_wp2_with fail
 have b1 : (w3.alloc (.cells #[.int .i64 3, .int .i64 1, .int .i64 0, .int .i64 1] 56)).heap[w3.heap.size]? = some (.cells #[.int .i64 3, .int .i64 1, .int .i64 0, .int .i64 1] 56 (0, 0)) := blk_at _ rfl
 have H1 := bl_alloc (Below.refl w3.heap.size w3) (.cells #[.int .i64 3, .int .i64 1, .int .i64 0, .int .i64 1] 56)
 refine (lnsame_calls A2 2 c2 _ 2 [(3, 1), (0, 1)] _ (t2.below H1) (RdN.two b1)).mono ?_
 rintro e w4 ⟨rfl, hB4⟩
 replace H1 := bl_then H1 hB4
 replace B0 := bl_then B0 H1
 clear b1 hB4 H1 t2
 go_wp2
 go_ret
 exact ⟨rfl, B0⟩
end Go.Proofs.YtloplmmnmehkmaaGreat

namespace Go.Proofs.YtloplmmnmehkmaaGreat
open Go.RowKit

/-- A slice of integers of the reference in a block of their type. -/
def RdT (w : World) (A : Option Addr) (n : Nat) (zs : List Int) : Prop := RdR w A n zs ∧ (0 < n → ∃ g cs, A = some ⟨g, 0, none⟩ ∧ w.heap[g]? = some (.cells cs 49 (0, 0)))
theorem RdT.below {w w' : World} {A : Option Addr} {n : Nat} {zs : List Int} (h : RdT w A n zs) (hb : Below w.heap.size w w') : RdT w' A n zs :=
 ⟨h.1.below hb, fun hn => by obtain ⟨g, cs, e, hg⟩ := h.2 hn; exact ⟨g, cs, e, blk_below hg hb⟩⟩
theorem cell_blk {w w' : World} {g o : Nat} {cs : Array Value} {t : TypeId} (h : w.heap[g]? = some (.cells cs t (0, 0))) (h' : w'.heap[g]? = some (.cells cs t (0, 0))) : w'.cell? ⟨g, o, none⟩ = w.cell? ⟨g, o, none⟩ := (blk_cell h' o).1.trans (blk_cell h o).1.symm
theorem RdT.kp {w w' : World} {A : Option Addr} {n : Nat} {zs : List Int} (h : RdT w A n zs) (k1 : Kp 49 w w') (k : Kp 3 w w') : RdT w' A n zs := by
 refine ⟨⟨h.1.1, h.1.2.1, fun hn => ?_⟩, fun hn => ?_⟩
 ·obtain ⟨g, e, hg, hcc⟩ := h.1.2.2 hn
  obtain ⟨g', cs, e', hb⟩ := h.2 hn
  rw [e] at e'
  cases e'
  have hb' := k1.blk _ _ _ hb
  refine ⟨g, e, blk_lt hb', fun j hj => ?_⟩
  obtain ⟨x, ⟨h1, h2, h3⟩, h4⟩ := hcc j hj
  exact ⟨x, ⟨(cell_blk hb hb').trans h1, (cell_blk hb hb').trans h2, (cell_blk hb hb').trans h3⟩, RV.kp h4 k⟩
 ·obtain ⟨g', cs, e', hb⟩ := h.2 hn
  exact ⟨g', cs, e', k1.blk _ _ _ hb⟩
/-- A row of the reference as a result. -/
def RowT (e : Ending) (w : World) (n : Nat) (zs : List Int) (z : Int) : Prop := ∃ (A : Option Addr) (c : Nat) (x : JC), e = .returned (.agg #[.slice A n c, .int .i64 x.s, .bool x.g, .slice x.A x.n x.c]) ∧ RdT w A n zs ∧ x.Is w z
theorem KR.rdT {w : World} {base n : Nat} {v : Value} {X : List Int} (h : KR.Own w base v n X) (hn : n ≤ 1000000) : ∃ A c, v = .slice A n c ∧ RdT w A n X := by
 obtain ⟨A, c, rfl, h1⟩ := KR.rdR h hn
 obtain ⟨A', c', e', _, h2, h2', h3⟩ := h.rd KR.ok
 cases e'
 refine ⟨A, c, rfl, h1, fun hp => ?_⟩
 obtain ⟨g, cs, e, hg, _⟩ := h3 hp
 exact ⟨g, cs, e, hg⟩
/-- The cells of a row of the reference. -/
structure WJ where
 A : Option Addr
 n : Nat
 c : Nat
 x : JC
def KW : Kind WJ Fm := ⟨fun y => [.slice y.A y.n y.c, .int .i64 y.x.s, .bool y.x.g, .slice y.x.A y.x.n y.x.c], 4, 60, fun w y f => RdT w y.A y.n f.1 ∧ y.x.Is w f.2, ⟨none, 0, 0, ⟨0, false, none, 0, 0⟩⟩, ([], 0)⟩
theorem KW.ok : KW.Ok := ⟨fun _ => rfl, by decide, fun y u hu => by simp [KW] at hu; rcases hu with rfl | rfl | rfl | rfl <;> rfl, fun W W' y r h k => ⟨h.1.kp (k _ (by decide)) (k _ (by decide)), RV.kp h.2 (k _ (by decide))⟩, fun W W' y r h k => ⟨h.1.below k, RV.kp h.2 (Kp.below k)⟩⟩
theorem info_rrow : (Tryz.prog.info? KW.E).map (fun i => (i.zero, i.size, i.bytes)) = some (some (.agg #[.slice none 0 0, .int .i64 0, .bool false, .slice none 0 0]), KW.sz, 64) := by kernel_rfl
set_option maxHeartbeats 40000000
set_option maxRecDepth 100000
theorem r2tot_calls (A : Option Addr) (m c : Nat) (f : Fm) (w : World) (h : RdC w A m f.1) (hi : I64F f) (hm : m ≤ 500) :
  Calls Tryz.prog 31 #[.agg #[.slice A m c, .int .i64 f.2]] w fun e w' => RowT e w' m f.1 f.2 ∧ Below w.heap.size w w' := by
 have LN := Lib.hid h.1
 have HI := Lib.hid hi
 have f20 := hi.2.1
 have f21 := hi.2.2
 clear hi
 go_enter Tryz.func31, Tryz.ntmps31
 have a1 := blk_alloc (blk_at (W := w) (.cells #[.slice A m c, .int .i64 f.2] 44) rfl) (.cells #[.slice none 0 0, .int .i64 0, .bool false, .slice none 0 0] 60)
 obtain ⟨g1, g2, g3, g4⟩ := bx2 a1
 go_wp2_with fail
 clear g1 g2 g3 g4
 refine (rof_calls f.2 _ f20 f21).mono ?_
 rintro e w1 ⟨⟨s1, b1, A1, n1, c1, rfl, t1⟩, hB1⟩
 obtain ⟨y, hye⟩ : ∃ y : JC, y = ⟨s1, b1, A1, n1, c1⟩ := ⟨_, rfl⟩
 have hy0 : RV w1 y.s y.g y.A y.n y.c f.2 := by rw [hye]; exact t1
 have e1 : s1 = y.s := by rw [hye]
 have e2 : b1 = y.g := by rw [hye]
 have e3 : A1 = y.A := by rw [hye]
 have e4 : n1 = y.n := by rw [hye]
 have e5 : c1 = y.c := by rw [hye]
 clear hye t1
 subst e1 e2 e3 e4 e5
 have a10 := blk_below a1 hB1
 have az0 : w1.heap[w.heap.size + 1]? = some (.cells #[.slice none 0 0, .int .i64 0, .bool false, .slice none 0 0] 60 (0, 0)) := blk_below (blk_at _ (by simp)) hB1
 have B00 : Below w.heap.size w w1 := bl_then (bl_alloc (bl_alloc (Below.refl _ _) _) _) hB1
 clear hB1 a1
 have a1 := blk_alloc a10 (.cells #[.slice none 0 0, .int .i64 y.s, .bool y.g, .slice y.A y.n y.c] 60)
 have az := blk_alloc az0 (.cells #[.slice none 0 0, .int .i64 y.s, .bool y.g, .slice y.A y.n y.c] 60)
 have ar : (w1.alloc (.cells #[.slice none 0 0, .int .i64 y.s, .bool y.g, .slice y.A y.n y.c] 60)).heap[w1.heap.size]? = some (.cells #[.slice none 0 0, .int .i64 y.s, .bool y.g, .slice y.A y.n y.c] 60 (0, 0)) := blk_at _ rfl
 have hy : RV (w1.alloc (.cells #[.slice none 0 0, .int .i64 y.s, .bool y.g, .slice y.A y.n y.c] 60)) y.s y.g y.A y.n y.c f.2 := RV.kp hy0 ((Kp.refl _ _).alloc _)
 have B0 := bl_alloc B00 (.cells #[.slice none 0 0, .int .i64 y.s, .bool y.g, .slice y.A y.n y.c] 60)
 have lz := blk_lt az0
 have O0 := Kind.Own.nil (K := KR) (w1.alloc (.cells #[.slice none 0 0, .int .i64 y.s, .bool y.g, .slice y.A y.n y.c] 60)) w.heap.size
 obtain ⟨g1, g2, _, _⟩ := bx2 a1
 clear a10 az0 B00 hy0
 go_wp2_with fail
 clear g1 g2 a1
 generalize w1.heap.size = g3 at *
 generalize w1.alloc (.cells #[.slice none 0 0, .int .i64 y.s, .bool y.g, .slice y.A y.n y.c] 60) = W1 at *
 go_loopw [13] (fun i wr => ∃ (kk : Nat) (v : Value), kk ≤ m ∧ i = .int .i64 kk ∧ KR.Own wr w.heap.size v kk (f.1.take kk) ∧ wr.heap[g3]? = some (.cells #[v, .int .i64 y.s, .bool y.g, .slice y.A y.n y.c] 60 (0, 0)) ∧ RV wr y.s y.g y.A y.n y.c f.2 ∧ wr.heap[w.heap.size + 1]? = some (.cells #[.slice none 0 0, .int .i64 0, .bool false, .slice none 0 0] 60 (0, 0)) ∧ Below w.heap.size w wr) (fun i _ => m - (intOf i).toNat)
 case atStart => exact ⟨0, _, Nat.zero_le _, rfl, O0, ar, hy, az, B0⟩
 case round =>
  clear O0 ar hy az B0
  obtain ⟨kk, v, hkk, rfl, OW, ar, hy, az, B0⟩ := hrel
  by_cases hlt : kk < m
  ·obtain ⟨g, off, rfl, hg, hc⟩ := (h.below B0).at_ (by omega)
   have p1 := hc kk hlt
   have hz := HI.out.1 _ (mem_getD (d := 0) (by rw [LN.out]; exact hlt) : f.1.getD kk 0 ∈ f.1)
   have HE := Lib.hid (take_snoc f.1 0 kk (by rw [LN.out]; exact hlt))
   obtain ⟨Av, cv, rfl, _⟩ := KR.rdR OW (by omega)
   clear hc h
   generalize f.1.getD kk 0 = z1 at *
   obtain ⟨z10, z11⟩ := hz
   go_upto_region 5 with (fail)
   clear p1 hg
   have hS0 : wr.drew.cell? ⟨g3, 0, none⟩ = some (Value.slice Av kk cv) := (q4c (blk_drew ar)).1
   refine wp_region_T (n := 7) (fun W => W.cell? ⟨g3, 0, none⟩ = some (Value.slice Av kk cv)) (by kernel_rfl) ?_
   refine wpT_take (n := 7) (i := 0) (v := ?_) (by decide) (by kernel_rfl) rfl (by kernel_rfl) (by kernel_rfl) (by kernel_rfl) (fun _ _ _ h => h) (Or.inl ⟨by rfl, ?_⟩) hS0 ?_
   rotate_left
   ·intro w' hSw
    (try dsimp only at hSw)
    go_simp
    (try with_reducible rfl)
   try simp only [Act.put, List.setIfInBounds_toArray, List.set_cons_zero, List.set_cons_succ]
   refine wpT_take (n := 7) (i := 1) (v := ?_) (by decide) (by kernel_rfl) rfl (by kernel_rfl) (by kernel_rfl) (by kernel_rfl) (fun _ _ _ h => h) (Or.inl ⟨by rfl, ?_⟩) hS0 ?_
   rotate_left
   ·intro w' hSw
    (try dsimp only at hSw)
    go_simp
    (try with_reducible rfl)
   try simp only [Act.put, List.setIfInBounds_toArray, List.set_cons_zero, List.set_cons_succ]
   refine wpT_take (n := 7) (i := 2) (v := ?_) (by decide) (by kernel_rfl) rfl (by kernel_rfl) (by kernel_rfl) (by kernel_rfl) (fun _ _ _ h => h) (Or.inl ⟨by rfl, ?_⟩) hS0 ?_
   rotate_left
   ·intro w' hSw
    (try dsimp only at hSw)
    go_simp
    (try with_reducible rfl)
   try simp only [Act.put, List.setIfInBounds_toArray, List.set_cons_zero, List.set_cons_succ]
   refine wpT_one (n := 7) (i := 3) (by kernel_rfl) rfl (fun K9 hK9 => ?_)
   go_simp
   refine (rof_calls z1 _ z10 z11).mono ?_
   rintro e y1 ⟨⟨s2, b2, A2, n2, c2, rfl, t2⟩, hB1⟩
   have H1 : Below wr.heap.size wr y1 := bl_then (bl_drew (Below.refl _ _)) hB1
   have hS1 : y1.cell? ⟨g3, 0, none⟩ = some (Value.slice Av kk cv) := (q4c (blk_below ar H1)).1
   refine hK9.out _ _ (fun _ => hS1) (fun _ => ?_)
   clear hK9 K9
   try simp only [Act.put, List.setIfInBounds_toArray, List.set_cons_zero, List.set_cons_succ]
   refine wpT_one (n := 7) (i := 4) (by kernel_rfl) rfl (fun K9 hK9 => ?_)
   go_simp
   have H2 : Below wr.heap.size wr (y1.alloc (.cells #[.int .i64 s2, .bool b2, .slice A2 n2 c2] 49)) := bl_alloc H1 _
   have hS2 : (y1.alloc (.cells #[.int .i64 s2, .bool b2, .slice A2 n2 c2] 49)).cell? ⟨g3, 0, none⟩ = some (Value.slice Av kk cv) := (q4c (blk_below ar H2)).1
   refine hK9.out _ _ (fun _ => hS2) (fun _ => ?_)
   clear hK9 K9
   try simp only [Act.put, List.setIfInBounds_toArray, List.set_cons_zero, List.set_cons_succ]
   have O1 := OW.below KR.ok H2
   have B1 := bl_then B0 H2
   have t3 : KR.Is (y1.alloc (.cells #[.int .i64 s2, .bool b2, .slice A2 n2 c2] 49)) ⟨s2, b2, A2, n2, c2⟩ z1 := RV.kp t2 ((Kp.refl _ _).alloc _)
   obtain ⟨v', W', hrun, O2, hgr⟩ := appg1 (c := 1) (g := y1.heap.size) KR.ok 58 _ 40 info_rint Tryz.underlying58 rfl (by omega) O1 ⟨s2, b2, A2, n2, c2⟩ z1 _ (blk_at _ rfl) rfl t3 (by omega) B1.size
   have V2 : Below w.heap.size w W' := below_of_grown B1 hgr B1.size O1.ge
   have HR := Lib.hid hrun
   have ar2 := (O1.kpg hgr 60 (by decide)).blk _ _ _ (blk_below ar H2)
   have az2 := (O1.kpg hgr 60 (by decide)).blk _ _ _ (blk_below az H2)
   have hy2 : RV W' y.s y.g y.A y.n y.c f.2 := (RV.kp (RV.kp hy (Kp.below H2)) (O1.kpg hgr 3 (by decide)))
   have hS3 : W'.cell? ⟨g3, 0, none⟩ = some (Value.slice Av kk cv) := (q4c ar2).1
   clear hrun
   refine wpT_one (n := 7) (i := 5) (by kernel_rfl) rfl (fun K9 hK9 => ?_)
   refine oper_ap rfl (.tmp 18) (.tmp 21) 58 (by rfl) _ _ (by rfl) (by rfl) _ (by rfl) _ _ HR.out ?_
   refine hK9.out _ _ (fun _ => hS3) (fun _ => ?_)
   clear hK9 K9
   try simp only [Act.put, List.setIfInBounds_toArray, List.set_cons_zero, List.set_cons_succ]
   refine wpT_take (n := 7) (i := 6) (v := ?_) (by decide) (by kernel_rfl) rfl (by kernel_rfl) (by kernel_rfl) (by kernel_rfl) (fun _ _ _ h => h) (Or.inl ⟨by rfl, ?_⟩) hS3 ?_
   rotate_left
   ·intro w' hSw
    (try dsimp only at hSw)
    go_simp
    (try with_reducible rfl)
   try simp only [Act.put, List.setIfInBounds_toArray, List.set_cons_zero, List.set_cons_succ]
   obtain ⟨A9, c9, rfl, _⟩ := KR.rdR O2 (by omega)
   have FF := q4c ar2
   obtain ⟨k1, k2, k3, k4, k5, k6, k7, k8⟩ := FF
   refine wpT_one (n := 7) (i := 7) (by kernel_rfl) rfl (fun K9 hK9 => ?_)
   go_simp
   refine hK9.out _ _ (fun h => absurd rfl h) (fun _ => ?_)
   clear hK9 K9
   try simp only [Act.put, List.setIfInBounds_toArray, List.set_cons_zero, List.set_cons_succ]
   refine wpT_done (by kernel_rfl) ?_ _
   have kpr : ∀ t, 60 ≠ t → Kp t W' (W'.setCell ⟨g3, 0, none⟩ (.slice A9 (kk + 1) c9)) := fun t ht => (Kp.refl _ _).set (p := ⟨g3, 0, none⟩) ar2 ht _
   have U1 : (W'.setCell ⟨g3, 0, none⟩ (.slice A9 (kk + 1) c9)).heap[g3]? = some (.cells #[.slice A9 (kk + 1) c9, .int .i64 y.s, .bool y.g, .slice y.A y.n y.c] 60 (0, 0)) := blk_set ar2 0 _
   have U2 := O2.kps (kpr 49 (by decide)) (fun y r h => RV.kp h (kpr 3 (by decide)))
   have U3 := hy2.kp (kpr 3 (by decide))
   have U4 := blk_far (i := 0) (v := .slice A9 (kk + 1) c9) az2 (show w.heap.size + 1 ≠ g3 by omega)
   have U5 := bl_set V2 (p := ⟨g3, 0, none⟩) (show w.heap.size ≤ g3 by omega) (.slice A9 (kk + 1) c9)
   rw [← HE.out] at U2
   go_wp2
   go_roundw
   case rel => exact ⟨kk + 1, _, hlt, by go_num, U2, U1, U3, U4, U5⟩
   case measure => simp [intOf]; omega
  ·have hkn : m = kk := by omega
   subst hkn
   obtain ⟨Av, cv, rfl, _⟩ := KR.rdR OW (by omega)
   have FF := q4c ar
   obtain ⟨k1, k2, k3, k4, k5, k6, k7, k8⟩ := FF
   have FZ := q4c az
   obtain ⟨m1, m2, m3, m4, m5, m6, m7, m8⟩ := FZ
   have U1 := blk_set4 az (.slice Av m cv) (.int .i64 y.s) (.bool y.g) (.slice y.A y.n y.c)
   have kpr : ∀ t, 60 ≠ t → Kp t wr _ := fun t ht => ((((Kp.refl _ _).set (p := ⟨w.heap.size + 1, 0, none⟩) az ht (.slice Av m cv)).set (p := ⟨w.heap.size + 1, 1, none⟩) (blk_set az 0 _) ht (.int .i64 y.s)).set (p := ⟨w.heap.size + 1, 2, none⟩) (blk_set (blk_set az 0 _) 1 _) ht (.bool y.g)).set (p := ⟨w.heap.size + 1, 3, none⟩) (blk_set (blk_set (blk_set az 0 _) 1 _) 2 _) ht (.slice y.A y.n y.c)
   have U2 := OW.kps (kpr 49 (by decide)) (fun y r h => RV.kp h (kpr 3 (by decide)))
   have U3 := hy.kp (kpr 3 (by decide))
   have U4 := q4_bl (i1 := 0) (i2 := 1) (i3 := 2) (i4 := 3) B0 (show w.heap.size ≤ w.heap.size + 1 by omega) (.slice Av m cv) (.int .i64 y.s) (.bool y.g) (.slice y.A y.n y.c)
   rw [List.take_of_length_le (by rw [LN.out]; exact Nat.le_refl _)] at U2
   obtain ⟨A8, c8, e8, U5⟩ := KR.rdT U2 (by omega)
   cases e8
   clear kpr
   go_wp2
   refine bodyPost_ret (results_cell_row rfl _ _ (w.heap.size + 1) 60 #[.slice Av m cv, .int .i64 y.s, .bool y.g, .slice y.A y.n y.c] (0, 0) _ rfl U1 Tryz.underlying60 rfl (by kernel_rfl)) rfl ?_
   exact ⟨⟨Av, cv, y, rfl, U5, U3⟩, U4⟩
theorem r2divk_calls (A : Option Addr) (n c : Nat) (x : JC) (zs : List Int) (z0 : Int) (w : World) (h : RdR w A n zs) (hx : x.Is w z0) (hn : n ≤ 500) (K : Nat) (sz : ∀ j, Sz K (zs.getD j 0)) (sx : Sz K z0) (hK : K ≤ 1000000) :
  Calls Tryz.prog 125 #[.agg #[.slice A n c, .int .i64 x.s, .bool x.g, .slice x.A x.n x.c]] w fun e w' => RIntR e w' (dK zs z0 n) ∧ Below w.heap.size w w' := by
 have LN := Lib.hid h.1
 have HSZ := Lib.hid sz
 have HD := Lib.hid (dK_sz sz sx)
 clear sz sx
 go_enter Tryz.func125, Tryz.ntmps125
 have a1 := blk_alloc (blk_at (W := w) (.cells #[.slice A n c, .int .i64 x.s, .bool x.g, .slice x.A x.n x.c] 60) rfl) (.cells #[.int .i64 0, .bool false, .slice none 0 0] 49)
 obtain ⟨f1, f2, f3, f4, f5⟩ := q4c a1
 go_wp2_with fail
 clear f1 f2 f3 f4 f5
 have hx1 : RV _ x.s x.g x.A x.n x.c z0 := RV.al2 (RV.al2 hx (.cells #[.slice A n c, .int .i64 x.s, .bool x.g, .slice x.A x.n x.c] 60)) (.cells #[.int .i64 0, .bool false, .slice none 0 0] 49)
 refine (riabs_calls x.s x.g x.A x.n x.c z0 _ hx1).mono ?_
 rintro e w1 ⟨⟨s1, b1, A1, n1, c1, rfl, t1⟩, hB1⟩
 obtain ⟨y, rfl, rfl, rfl, rfl, rfl, hy0⟩ := jc_mk t1
 clear t1 hx1
 replace a1 := blk_alloc (blk_below a1 hB1) (.cells #[.int .i64 y.s, .bool y.g, .slice y.A y.n y.c] 49)
 have az0 : w1.heap[w.heap.size + 1]? = some (.cells #[.int .i64 0, .bool false, .slice none 0 0] 49 (0, 0)) := blk_below (blk_at _ (by simp)) hB1
 have lz := blk_lt az0
 have az := blk_alloc az0 (.cells #[.int .i64 y.s, .bool y.g, .slice y.A y.n y.c] 49)
 have ay : (w1.alloc (.cells #[.int .i64 y.s, .bool y.g, .slice y.A y.n y.c] 49)).heap[w1.heap.size]? = some (.cells #[.int .i64 y.s, .bool y.g, .slice y.A y.n y.c] 49 (0, 0)) := blk_at _ rfl
 have hy := RV.al2 hy0 (.cells #[.int .i64 y.s, .bool y.g, .slice y.A y.n y.c] 49)
 have B0 := bl_alloc (bl_then (bl_alloc (bl_alloc (Below.refl _ _) _) _) hB1) (.cells #[.int .i64 y.s, .bool y.g, .slice y.A y.n y.c] 49)
 clear hB1 az0 hy0
 obtain ⟨f1, f2, f3, f4, f5⟩ := q4c a1
 go_wp2_with fail
 clear f1 f2 f3 f4 f5 a1
 generalize w1.heap.size = g3 at *
 generalize w1.alloc (.cells #[.int .i64 y.s, .bool y.g, .slice y.A y.n y.c] 49) = W1 at *
 go_loopw [12] (fun i wr => ∃ (kk : Nat) (y : JC), kk ≤ n ∧ i = .int .i64 kk ∧ wr.heap[g3]? = some (.cells #[.int .i64 y.s, .bool y.g, .slice y.A y.n y.c] 49 (0, 0)) ∧ RV wr y.s y.g y.A y.n y.c (dK zs z0 kk) ∧ wr.heap[w.heap.size + 1]? = some (.cells #[.int .i64 0, .bool false, .slice none 0 0] 49 (0, 0)) ∧ Below w.heap.size w wr) (fun i _ => n - (intOf i).toNat)
 case atStart => exact ⟨0, y, Nat.zero_le _, rfl, ay, hy, az, B0⟩
 case round =>
  clear ay hy az B0
  obtain ⟨kk, y, hkk, rfl, ay, hy, az, B0⟩ := hrel
  by_cases hlt : kk < n
  ·obtain ⟨g, rfl, hg, hc⟩ := (h.below B0).2.2 (by omega)
   obtain ⟨z, ⟨p1, p2, p3⟩, hz0⟩ := hc kk hlt
   have HV := Lib.hid (show dK zs z0 (kk + 1) = (Int.gcd (dK zs z0 kk) (zs.getD kk 0) : Int) from rfl)
   have hz : RV wr z.s z.g z.A z.n z.c (zs.getD kk 0) := hz0
   have HC := Lib.hid (HSZ.out kk)
   have HDK := Lib.hid (HD.out kk)
   clear hc h hz0
   generalize zs.getD kk 0 = cz at *
   generalize dK zs z0 kk = dk at *
   replace ay := blk_alloc ay (.cells #[.int .i64 z.s, .bool z.g, .slice z.A z.n z.c] 49)
   replace az := blk_alloc az (.cells #[.int .i64 z.s, .bool z.g, .slice z.A z.n z.c] 49)
   replace hy := RV.al2 hy (.cells #[.int .i64 z.s, .bool z.g, .slice z.A z.n z.c] 49)
   replace hz := RV.al2 hz (.cells #[.int .i64 z.s, .bool z.g, .slice z.A z.n z.c] 49)
   replace B0 := bl_alloc B0 (.cells #[.int .i64 z.s, .bool z.g, .slice z.A z.n z.c] 49)
   obtain ⟨⟨f1, f2, f3⟩, f4⟩ := bx3 ay
   go_wp2_with fail
   refine (rigcd_calls y.s y.g y.A y.n y.c dk z.s z.g z.A z.n z.c cz _ hy hz K HDK.out HC.out (by omega)).mono ?_
   rintro e w2 ⟨⟨s2, b2, A2, n2, c2, rfl, t2⟩, hB2⟩
   replace ay := blk_below ay hB2
   replace az := blk_below az hB2
   replace B0 := bl_then B0 hB2
   clear f1 f2 f3 f4 hB2 p1 p2 p3 hy hz hg
   have hE := Lib.hid (putR t2 ay B0 (by omega))
   have V1 := Lib.hid (blk_far (i := 2) (v := .slice A2 n2 c2) (blk_far (i := 1) (v := .bool b2) (blk_far (i := 0) (v := .int .i64 s2) az (show w.heap.size + 1 ≠ g3 by omega)) (show w.heap.size + 1 ≠ g3 by omega)) (show w.heap.size + 1 ≠ g3 by omega))
   obtain ⟨⟨f1, f2, f3⟩, f4⟩ := bx3 ay
   clear t2 ay az B0
   go_wp2
   go_roundw
   case rel => exact ⟨kk + 1, ⟨s2, b2, A2, n2, c2⟩, hlt, by go_num, hE.out.2.2, by rw [HV.out]; exact hE.out.1, V1.out, hE.out.2.1⟩
   case measure => simp [intOf]; omega
  ·have hkn : n = kk := by omega
   subst hkn
   obtain ⟨⟨f1, f2, f3⟩, f4⟩ := bx3 ay
   obtain ⟨⟨m1, m2, m3⟩, m4⟩ := bx3 az
   have hE := Lib.hid (putR hy az B0 (by omega))
   go_wp2
   refine bodyPost_ret (results_cell_row rfl _ _ (w.heap.size + 1) 49 #[.int .i64 y.s, .bool y.g, .slice y.A y.n y.c] (0, 0) _ rfl hE.out.2.2 Tryz.underlying49 rfl (by kernel_rfl)) rfl ?_
   exact ⟨⟨_, _, _, _, _, rfl, hE.out.1⟩, hE.out.2.1⟩
end Go.Proofs.YtloplmmnmehkmaaGreat

namespace Go.Proofs.YtloplmmnmehkmaaGreat
open Go.RowKit

theorem Kind.Own.lt {α β : Type} {K : Kind α β} {w : World} {base n : Nat} {v : Value} {R : List β} (ho : K.Own w base v n R) : ∀ b, v.ownBlock = some b → b < w.heap.size := by
 obtain ⟨l, h1, _⟩ := ho
 exact fun b hb => (h1.lt b hb).2
set_option maxHeartbeats 40000000
set_option maxRecDepth 100000
theorem r2times_calls (A : Option Addr) (n c : Nat) (x : JC) (zs : List Int) (z0 : Int) (u : JC) (k : Int) (w : World) (h : RdR w A n zs) (hx : x.Is w z0) (hu0 : u.Is w k) (hn : n ≤ 500) (K : Nat) (sz : ∀ j, Sz K (zs.getD j 0)) (sx : Sz K z0) (su : Sz K k) (hK : K ≤ 1000000) :
  Calls Tryz.prog 124 #[.agg #[.slice A n c, .int .i64 x.s, .bool x.g, .slice x.A x.n x.c], .agg #[.int .i64 u.s, .bool u.g, .slice u.A u.n u.c]] w fun e w' => RowT e w' n (zs.map (· * k)) (z0 * k) ∧ Below w.heap.size w w' := by
 have LN := Lib.hid h.1
 have HSZ := Lib.hid sz
 have HU := Lib.hid su
 have HSX := Lib.hid sx
 clear sz su sx
 go_enter Tryz.func124, Tryz.ntmps124
 have B0 := bl_alloc (bl_alloc (bl_alloc (Below.refl w.heap.size w) (.cells #[.slice A n c, .int .i64 x.s, .bool x.g, .slice x.A x.n x.c] 60)) (.cells #[.int .i64 u.s, .bool u.g, .slice u.A u.n u.c] 49)) (.cells #[.slice none 0 0, .int .i64 0, .bool false, .slice none 0 0] 60)
 have a1 := blk_alloc (blk_alloc (blk_at (W := w) (.cells #[.slice A n c, .int .i64 x.s, .bool x.g, .slice x.A x.n x.c] 60) rfl) (.cells #[.int .i64 u.s, .bool u.g, .slice u.A u.n u.c] 49)) (.cells #[.slice none 0 0, .int .i64 0, .bool false, .slice none 0 0] 60)
 have au := blk_alloc (blk_at (W := w.alloc (.cells #[.slice A n c, .int .i64 x.s, .bool x.g, .slice x.A x.n x.c] 60)) (.cells #[.int .i64 u.s, .bool u.g, .slice u.A u.n u.c] 49) rfl) (.cells #[.slice none 0 0, .int .i64 0, .bool false, .slice none 0 0] 60)
 have az := blk_at (W := (w.alloc (.cells #[.slice A n c, .int .i64 x.s, .bool x.g, .slice x.A x.n x.c] 60)).alloc (.cells #[.int .i64 u.s, .bool u.g, .slice u.A u.n u.c] 49)) (.cells #[.slice none 0 0, .int .i64 0, .bool false, .slice none 0 0] 60) rfl
 have hx1 := RV.kp hx (Kp.below B0)
 have hu := RV.kp hu0 (Kp.below B0)
 simp only [World.size_alloc] at au az
 obtain ⟨f1, f2, f3, f4, f5⟩ := q4c a1
 obtain ⟨⟨k1, k2, k3⟩, k4⟩ := bx3 au
 go_wp2_with fail
 refine (rtimes_calls x.s x.g x.A x.n x.c z0 u.s u.g u.A u.n u.c k _ hx1 hu K HSX.out HU.out (by omega)).mono ?_
 rintro e w1 ⟨⟨s1, b1, A1, n1, c1, rfl, t1⟩, hB1⟩
 obtain ⟨y, rfl, rfl, rfl, rfl, rfl, hy0⟩ := jc_mk t1
 replace hu := RV.below hu hB1
 clear t1 f1 f2 f3 f4 f5 k1 k2 k3 k4 hx1 hu0
 have ar : (w1.alloc (.cells #[.slice none 0 0, .int .i64 y.s, .bool y.g, .slice y.A y.n y.c] 60)).heap[w1.heap.size]? = some (.cells #[.slice none 0 0, .int .i64 y.s, .bool y.g, .slice y.A y.n y.c] 60 (0, 0)) := blk_at _ rfl
 replace a1 := blk_alloc (blk_below a1 hB1) (.cells #[.slice none 0 0, .int .i64 y.s, .bool y.g, .slice y.A y.n y.c] 60)
 replace az := blk_alloc (blk_below az hB1) (.cells #[.slice none 0 0, .int .i64 y.s, .bool y.g, .slice y.A y.n y.c] 60)
 replace au := blk_alloc (blk_below au hB1) (.cells #[.slice none 0 0, .int .i64 y.s, .bool y.g, .slice y.A y.n y.c] 60)
 have hy := RV.al2 hy0 (.cells #[.slice none 0 0, .int .i64 y.s, .bool y.g, .slice y.A y.n y.c] 60)
 replace hu := RV.al2 hu (.cells #[.slice none 0 0, .int .i64 y.s, .bool y.g, .slice y.A y.n y.c] 60)
 replace B0 := bl_alloc (bl_then B0 hB1) (.cells #[.slice none 0 0, .int .i64 y.s, .bool y.g, .slice y.A y.n y.c] 60)
 have l3 : w.heap.size + 1 + 1 < w1.heap.size := by have := hB1.size; simp at this; omega
 clear hB1 hy0
 obtain ⟨f1, f2, f3, f4, f5⟩ := q4c a1
 go_wp2_with fail
 clear f1 f2 f3 f4 f5 a1
 obtain ⟨bs, hbs⟩ : ∃ bs, bs = (w1.alloc (.cells #[.slice none 0 0, .int .i64 y.s, .bool y.g, .slice y.A y.n y.c] 60)).heap.size := ⟨_, rfl⟩
 have hg3 : w1.heap.size < bs := by rw [hbs]; exact blk_lt ar
 generalize w1.heap.size = g3 at *
 generalize w1.alloc (.cells #[.slice none 0 0, .int .i64 y.s, .bool y.g, .slice y.A y.n y.c] 60) = W1 at *
 have hgz : w.heap.size + 1 + 1 < bs := by omega
 have hgu : w.heap.size + 1 < bs := by omega
 have O0 := Kind.Own.nil (K := KR) W1 bs
 go_loopw [16] (fun i wr => ∃ (kk : Nat) (v : Value), kk ≤ n ∧ i = .int .i64 kk ∧ KR.Own wr bs v kk ((zs.take kk).map (· * k)) ∧ bs ≤ wr.heap.size ∧ wr.heap[g3]? = some (.cells #[v, .int .i64 y.s, .bool y.g, .slice y.A y.n y.c] 60 (0, 0)) ∧ RV wr y.s y.g y.A y.n y.c (z0 * k) ∧ wr.heap[w.heap.size + 1]? = some (.cells #[.int .i64 u.s, .bool u.g, .slice u.A u.n u.c] 49 (0, 0)) ∧ RV wr u.s u.g u.A u.n u.c k ∧ wr.heap[w.heap.size + 1 + 1]? = some (.cells #[.slice none 0 0, .int .i64 0, .bool false, .slice none 0 0] 60 (0, 0)) ∧ Below w.heap.size w wr) (fun i _ => n - (intOf i).toNat)
 case atStart => exact ⟨0, _, Nat.zero_le _, rfl, O0, Nat.le_of_eq hbs, ar, hy, au, hu, az, B0⟩
 case round =>
  clear O0 ar hy au hu az B0
  obtain ⟨kk, v, hkk, rfl, OW, hbz, ar, hy, au, hu, az, B0⟩ := hrel
  by_cases hlt : kk < n
  ·obtain ⟨g, rfl, hg, hc⟩ := (h.below B0).2.2 (by omega)
   obtain ⟨z, ⟨p1, p2, p3⟩, hz0⟩ := hc kk hlt
   have hz : RV wr z.s z.g z.A z.n z.c (zs.getD kk 0) := hz0
   have HC := Lib.hid (HSZ.out kk)
   have HE := Lib.hid (getD_take_snoc (· * k) zs kk (by rw [LN.out]; exact hlt))
   obtain ⟨Av, cv, rfl, _⟩ := KR.rdR OW (by omega)
   clear hc h hz0
   generalize zs.getD kk 0 = cz at *
   go_upto_region 5 with (fail)
   clear p1 p2 p3 hg
   have a7 : (wr.alloc (.cells #[.int .i64 z.s, .bool z.g, .slice z.A z.n z.c] 49)).heap[wr.heap.size]? = some (.cells #[.int .i64 z.s, .bool z.g, .slice z.A z.n z.c] 49 (0, 0)) := blk_at _ rfl
   replace ar := blk_alloc ar (.cells #[.int .i64 z.s, .bool z.g, .slice z.A z.n z.c] 49)
   replace az := blk_alloc az (.cells #[.int .i64 z.s, .bool z.g, .slice z.A z.n z.c] 49)
   replace au := blk_alloc au (.cells #[.int .i64 z.s, .bool z.g, .slice z.A z.n z.c] 49)
   replace hy := RV.al2 hy (.cells #[.int .i64 z.s, .bool z.g, .slice z.A z.n z.c] 49)
   replace hu := RV.al2 hu (.cells #[.int .i64 z.s, .bool z.g, .slice z.A z.n z.c] 49)
   replace hz := RV.al2 hz (.cells #[.int .i64 z.s, .bool z.g, .slice z.A z.n z.c] 49)
   have OW0 := OW
   replace OW := OW.below KR.ok (bl_alloc (Below.refl _ _) (.cells #[.int .i64 z.s, .bool z.g, .slice z.A z.n z.c] 49))
   have OLT : ∀ b, (Value.slice Av kk cv).ownBlock = some b → b < wr.heap.size := OW0.lt
   replace B0 := bl_alloc B0 (.cells #[.int .i64 z.s, .bool z.g, .slice z.A z.n z.c] 49)
   have hbz4 : bs ≤ (wr.alloc (.cells #[.int .i64 z.s, .bool z.g, .slice z.A z.n z.c] 49)).heap.size := by simp; omega
   generalize wr.heap.size = g7 at *
   generalize wr.alloc (.cells #[.int .i64 z.s, .bool z.g, .slice z.A z.n z.c] 49) = W4 at *
   have ar_0 := blk_drew ar
   have a7_0 := blk_drew a7
   have au_0 := blk_drew au
   have hS0 : W4.drew.cell? ⟨g3, 0, none⟩ = some (Value.slice Av kk cv) ∧ W4.drew.cell? ⟨g7, 0, none⟩ = some (Value.int .i64 z.s) ∧ W4.drew.cell? ⟨g7, 1, none⟩ = some (Value.bool z.g) ∧ W4.drew.cell? ⟨g7, 2, none⟩ = some (Value.slice z.A z.n z.c) ∧ W4.drew.cell? ⟨w.heap.size + 1, 0, none⟩ = some (Value.int .i64 u.s) ∧ W4.drew.cell? ⟨w.heap.size + 1, 1, none⟩ = some (Value.bool u.g) ∧ W4.drew.cell? ⟨w.heap.size + 1, 2, none⟩ = some (Value.slice u.A u.n u.c) := And.intro (q4c ar_0).1 (qj3 (bx3 a7_0).1 (bx3 au_0).1)
   refine wp_region_T (n := 8) (fun W => W.cell? ⟨g3, 0, none⟩ = some (Value.slice Av kk cv) ∧ W.cell? ⟨g7, 0, none⟩ = some (Value.int .i64 z.s) ∧ W.cell? ⟨g7, 1, none⟩ = some (Value.bool z.g) ∧ W.cell? ⟨g7, 2, none⟩ = some (Value.slice z.A z.n z.c) ∧ W.cell? ⟨w.heap.size + 1, 0, none⟩ = some (Value.int .i64 u.s) ∧ W.cell? ⟨w.heap.size + 1, 1, none⟩ = some (Value.bool u.g) ∧ W.cell? ⟨w.heap.size + 1, 2, none⟩ = some (Value.slice u.A u.n u.c)) (by kernel_rfl) ?_
   refine wpT_take (n := 8) (i := 0) (v := ?_) (by decide) (by kernel_rfl) rfl (by kernel_rfl) (by kernel_rfl) (by kernel_rfl) (fun _ _ _ h => h) (Or.inl ⟨by rfl, ?_⟩) hS0 ?_
   rotate_left
   ·intro w' hSw
    (try dsimp only at hSw)
    go_simp
    (try with_reducible rfl)
   try simp only [Act.put, List.setIfInBounds_toArray, List.set_cons_zero, List.set_cons_succ]
   refine wpT_take (n := 8) (i := 1) (v := ?_) (by decide) (by kernel_rfl) rfl (by kernel_rfl) (by kernel_rfl) (by kernel_rfl) (fun _ _ _ h => h) (Or.inl ⟨by rfl, ?_⟩) hS0 ?_
   rotate_left
   ·intro w' hSw
    (try dsimp only at hSw)
    go_simp
    (try with_reducible rfl)
   try simp only [Act.put, List.setIfInBounds_toArray, List.set_cons_zero, List.set_cons_succ]
   refine wpT_take (n := 8) (i := 2) (v := ?_) (by decide) (by kernel_rfl) rfl (by kernel_rfl) (by kernel_rfl) (by kernel_rfl) (fun _ _ _ h => h) (Or.inl ⟨by rfl, ?_⟩) hS0 ?_
   rotate_left
   ·intro w' hSw
    (try dsimp only at hSw)
    go_simp
    (try with_reducible rfl)
   try simp only [Act.put, List.setIfInBounds_toArray, List.set_cons_zero, List.set_cons_succ]
   refine wpT_take (n := 8) (i := 3) (v := ?_) (by decide) (by kernel_rfl) rfl (by kernel_rfl) (by kernel_rfl) (by kernel_rfl) (fun _ _ _ h => h) (Or.inl ⟨by rfl, ?_⟩) hS0 ?_
   rotate_left
   ·intro w' hSw
    (try dsimp only at hSw)
    go_simp
    (try with_reducible rfl)
   try simp only [Act.put, List.setIfInBounds_toArray, List.set_cons_zero, List.set_cons_succ]
   refine wpT_one (n := 8) (i := 4) (by kernel_rfl) rfl (fun K9 hK9 => ?_)
   go_simp
   refine (rtimes_calls z.s z.g z.A z.n z.c cz u.s u.g u.A u.n u.c k _ (RV.below hz (bl_drew (Below.refl _ _))) (RV.below hu (bl_drew (Below.refl _ _))) K HC.out HU.out (by omega)).mono ?_
   rintro e y1 ⟨⟨s2, b2, A2, n2, c2, rfl, t2⟩, hB1⟩
   have H1 : Below W4.heap.size W4 y1 := bl_then (bl_drew (Below.refl _ _)) hB1
   have ar_1 := blk_below ar H1
   have a7_1 := blk_below a7 H1
   have au_1 := blk_below au H1
   have hS1 : y1.cell? ⟨g3, 0, none⟩ = some (Value.slice Av kk cv) ∧ y1.cell? ⟨g7, 0, none⟩ = some (Value.int .i64 z.s) ∧ y1.cell? ⟨g7, 1, none⟩ = some (Value.bool z.g) ∧ y1.cell? ⟨g7, 2, none⟩ = some (Value.slice z.A z.n z.c) ∧ y1.cell? ⟨w.heap.size + 1, 0, none⟩ = some (Value.int .i64 u.s) ∧ y1.cell? ⟨w.heap.size + 1, 1, none⟩ = some (Value.bool u.g) ∧ y1.cell? ⟨w.heap.size + 1, 2, none⟩ = some (Value.slice u.A u.n u.c) := And.intro (q4c ar_1).1 (qj3 (bx3 a7_1).1 (bx3 au_1).1)
   refine hK9.out _ _ (fun _ => hS1) (fun _ => ?_)
   clear hK9 K9
   try simp only [Act.put, List.setIfInBounds_toArray, List.set_cons_zero, List.set_cons_succ]
   refine wpT_one (n := 8) (i := 5) (by kernel_rfl) rfl (fun K9 hK9 => ?_)
   go_simp
   have H2 : Below W4.heap.size W4 (y1.alloc (.cells #[.int .i64 s2, .bool b2, .slice A2 n2 c2] 49)) := bl_alloc H1 _
   have ar_2 := blk_below ar H2
   have a7_2 := blk_below a7 H2
   have au_2 := blk_below au H2
   have hS2 : (y1.alloc (.cells #[.int .i64 s2, .bool b2, .slice A2 n2 c2] 49)).cell? ⟨g3, 0, none⟩ = some (Value.slice Av kk cv) ∧ (y1.alloc (.cells #[.int .i64 s2, .bool b2, .slice A2 n2 c2] 49)).cell? ⟨g7, 0, none⟩ = some (Value.int .i64 z.s) ∧ (y1.alloc (.cells #[.int .i64 s2, .bool b2, .slice A2 n2 c2] 49)).cell? ⟨g7, 1, none⟩ = some (Value.bool z.g) ∧ (y1.alloc (.cells #[.int .i64 s2, .bool b2, .slice A2 n2 c2] 49)).cell? ⟨g7, 2, none⟩ = some (Value.slice z.A z.n z.c) ∧ (y1.alloc (.cells #[.int .i64 s2, .bool b2, .slice A2 n2 c2] 49)).cell? ⟨w.heap.size + 1, 0, none⟩ = some (Value.int .i64 u.s) ∧ (y1.alloc (.cells #[.int .i64 s2, .bool b2, .slice A2 n2 c2] 49)).cell? ⟨w.heap.size + 1, 1, none⟩ = some (Value.bool u.g) ∧ (y1.alloc (.cells #[.int .i64 s2, .bool b2, .slice A2 n2 c2] 49)).cell? ⟨w.heap.size + 1, 2, none⟩ = some (Value.slice u.A u.n u.c) := And.intro (q4c ar_2).1 (qj3 (bx3 a7_2).1 (bx3 au_2).1)
   refine hK9.out _ _ (fun _ => hS2) (fun _ => ?_)
   clear hK9 K9
   try simp only [Act.put, List.setIfInBounds_toArray, List.set_cons_zero, List.set_cons_succ]
   have O1 := OW.below KR.ok H2
   have B1 := bl_then B0 H2
   have t3 : KR.Is (y1.alloc (.cells #[.int .i64 s2, .bool b2, .slice A2 n2 c2] 49)) ⟨s2, b2, A2, n2, c2⟩ (cz * k) := RV.al2 t2 _
   obtain ⟨v', W', hrun, O2, hgr⟩ := appg1 (c := 1) (g := y1.heap.size) KR.ok 58 _ 40 info_rint Tryz.underlying58 rfl (by omega) O1 ⟨s2, b2, A2, n2, c2⟩ (cz * k) _ (blk_at _ rfl) rfl t3 (by omega) (Nat.le_trans hbz4 H2.size)
   rw [← HE.out] at O2
   have V2 : Below w.heap.size w W' := below_of_grown B1 hgr B1.size (fun b hb => by have := O1.ge b hb; omega)
   have HR := Lib.hid hrun
   have ar_3 := blk_grown hgr ar_2 O1.ge hg3
   have az_3 := blk_grown hgr (blk_below az H2) O1.ge hgz
   have au_3 := blk_grown hgr au_2 O1.ge hgu
   have a7_3 := (hgr.block g7 (blk_lt a7_2) (fun e => by have := OLT g7 e.symm; omega)).trans a7_2
   have hy_3 := (RV.below hy H2).kp (O1.kpg hgr 3 (by decide))
   have hu_3 := (RV.below hu H2).kp (O1.kpg hgr 3 (by decide))
   have hbz3 : bs ≤ W'.heap.size := Nat.le_trans (Nat.le_trans hbz4 H2.size) hgr.size
   have hS3 : W'.cell? ⟨g3, 0, none⟩ = some (Value.slice Av kk cv) ∧ W'.cell? ⟨g7, 0, none⟩ = some (Value.int .i64 z.s) ∧ W'.cell? ⟨g7, 1, none⟩ = some (Value.bool z.g) ∧ W'.cell? ⟨g7, 2, none⟩ = some (Value.slice z.A z.n z.c) ∧ W'.cell? ⟨w.heap.size + 1, 0, none⟩ = some (Value.int .i64 u.s) ∧ W'.cell? ⟨w.heap.size + 1, 1, none⟩ = some (Value.bool u.g) ∧ W'.cell? ⟨w.heap.size + 1, 2, none⟩ = some (Value.slice u.A u.n u.c) := And.intro (q4c ar_3).1 (qj3 (bx3 a7_3).1 (bx3 au_3).1)
   clear hrun
   refine wpT_one (n := 8) (i := 6) (by kernel_rfl) rfl (fun K9 hK9 => ?_)
   refine oper_ap rfl (.tmp 21) (.tmp 25) 58 (by rfl) _ _ (by rfl) (by rfl) _ (by rfl) _ _ HR.out ?_
   refine hK9.out _ _ (fun _ => hS3) (fun _ => ?_)
   clear hK9 K9
   try simp only [Act.put, List.setIfInBounds_toArray, List.set_cons_zero, List.set_cons_succ]
   refine wpT_take (n := 8) (i := 7) (v := ?_) (by decide) (by kernel_rfl) rfl (by kernel_rfl) (by kernel_rfl) (by kernel_rfl) (fun _ _ _ h => h) (Or.inl ⟨by rfl, ?_⟩) hS3 ?_
   rotate_left
   ·intro w' hSw
    (try dsimp only at hSw)
    go_simp
    (try with_reducible rfl)
   try simp only [Act.put, List.setIfInBounds_toArray, List.set_cons_zero, List.set_cons_succ]
   obtain ⟨A9, c9, rfl, _⟩ := KR.rdR O2 (by omega)
   have FF := q4c ar_3
   obtain ⟨k1, k2, k3, k4, k5, k6, k7, k8⟩ := FF
   refine wpT_one (n := 8) (i := 8) (by kernel_rfl) rfl (fun K9 hK9 => ?_)
   go_simp
   refine hK9.out _ _ (fun h => absurd rfl h) (fun _ => ?_)
   clear hK9 K9
   try simp only [Act.put, List.setIfInBounds_toArray, List.set_cons_zero, List.set_cons_succ]
   refine wpT_done (by kernel_rfl) ?_ _
   have kpr : ∀ t, 60 ≠ t → Kp t W' (W'.setCell ⟨g3, 0, none⟩ (.slice A9 (kk + 1) c9)) := fun t ht => (Kp.refl _ _).set (p := ⟨g3, 0, none⟩) ar_3 ht _
   have X1 : (W'.setCell ⟨g3, 0, none⟩ (.slice A9 (kk + 1) c9)).heap[g3]? = some (.cells #[.slice A9 (kk + 1) c9, .int .i64 y.s, .bool y.g, .slice y.A y.n y.c] 60 (0, 0)) := blk_set ar_3 0 _
   have X2 := O2.kps (kpr 49 (by decide)) (fun y r h => RV.kp h (kpr 3 (by decide)))
   have X3 := hy_3.kp (kpr 3 (by decide))
   have X4 := hu_3.kp (kpr 3 (by decide))
   have X5 := blk_far (i := 0) (v := .slice A9 (kk + 1) c9) az_3 (show w.heap.size + 1 + 1 ≠ g3 by omega)
   have X6 := blk_far (i := 0) (v := .slice A9 (kk + 1) c9) au_3 (show w.heap.size + 1 ≠ g3 by omega)
   have X7 := bl_set V2 (p := ⟨g3, 0, none⟩) (show w.heap.size ≤ g3 by omega) (.slice A9 (kk + 1) c9)
   have X8 : bs ≤ (W'.setCell ⟨g3, 0, none⟩ (.slice A9 (kk + 1) c9)).heap.size := by simpa using hbz3
   go_wp2
   go_roundw
   case rel => exact ⟨kk + 1, _, hlt, by go_num, X2, X8, X1, X3, X6, X4, X5, X7⟩
   case measure => simp [intOf]; omega
  ·have hkn : n = kk := by omega
   subst hkn
   obtain ⟨Av, cv, rfl, _⟩ := KR.rdR OW (by omega)
   obtain ⟨k1, k2, k3, k4, k5, k6, k7, k8⟩ := q4c ar
   obtain ⟨m1, m2, m3, m4, m5, m6, m7, m8⟩ := q4c az
   have U1 := blk_set4 az (.slice Av n cv) (.int .i64 y.s) (.bool y.g) (.slice y.A y.n y.c)
   have kpr : ∀ t, 60 ≠ t → Kp t wr _ := fun t ht => q4kp az ht (.slice Av n cv) (.int .i64 y.s) (.bool y.g) (.slice y.A y.n y.c)
   have U2 := OW.kps (kpr 49 (by decide)) (fun y r h => RV.kp h (kpr 3 (by decide)))
   have U3 := hy.kp (kpr 3 (by decide))
   have U4 := q4_bl (i1 := 0) (i2 := 1) (i3 := 2) (i4 := 3) B0 (show w.heap.size ≤ w.heap.size + 1 + 1 by omega) (.slice Av n cv) (.int .i64 y.s) (.bool y.g) (.slice y.A y.n y.c)
   rw [List.take_of_length_le (by rw [LN.out]; exact Nat.le_refl _)] at U2
   obtain ⟨A8, c8, e8, U5⟩ := KR.rdT U2 (by omega)
   cases e8
   clear kpr
   go_wp2
   refine bodyPost_ret (results_cell_row rfl _ _ (w.heap.size + 1 + 1) 60 #[.slice Av n cv, .int .i64 y.s, .bool y.g, .slice y.A y.n y.c] (0, 0) _ rfl U1 Tryz.underlying60 rfl (by kernel_rfl)) rfl ?_
   exact ⟨⟨Av, cv, y, rfl, U5, U3⟩, U4⟩
end Go.Proofs.YtloplmmnmehkmaaGreat

namespace Go.Proofs.YtloplmmnmehkmaaGreat
open Go.RowKit

/-- The sums, coefficient by coefficient. -/
def plZ (n : Nat) (zs ys : List Int) : List Int := (List.range n).map fun i => zs.getD i 0 + ys.getD i 0
theorem plZ_succ (zs ys : List Int) (k : Nat) : plZ (k + 1) zs ys = plZ k zs ys ++ [zs.getD k 0 + ys.getD k 0] := by
 unfold plZ
 rw [List.range_succ, List.map_append]
 rfl
theorem cell3_below {w : World} {g o : Nat} {a b c : Value} (hg : g < w.heap.size) (h1 : w.cell? ⟨g, o, none⟩ = some a) (h2 : w.cell? ⟨g, o + 1, none⟩ = some b) (h3 : w.cell? ⟨g, o + 2, none⟩ = some c) {W : World} (hb : Below w.heap.size w W) : W.cell? ⟨g, o, none⟩ = some a ∧ W.cell? ⟨g, o + 1, none⟩ = some b ∧ W.cell? ⟨g, o + 2, none⟩ = some c := by
 have k := (cells_below hb).1
 exact ⟨(k _ _ hg).trans h1, (k _ _ hg).trans h2, (k _ _ hg).trans h3⟩
set_option maxHeartbeats 40000000
set_option maxRecDepth 100000
theorem r2plus_calls (A : Option Addr) (n c : Nat) (x : JC) (zs : List Int) (z0 : Int) (A' : Option Addr) (c' : Nat) (x' : JC) (ys : List Int) (y0 : Int) (w : World) (h : RdR w A n zs) (hx : x.Is w z0) (h' : RdR w A' n ys) (hx' : x'.Is w y0) (hn : n ≤ 500) (K : Nat) (sz : ∀ j, Sz K (zs.getD j 0)) (sx : Sz K z0) (sz' : ∀ j, Sz K (ys.getD j 0)) (sx' : Sz K y0) (hK : K ≤ 1000000) :
  Calls Tryz.prog 123 #[.agg #[.slice A n c, .int .i64 x.s, .bool x.g, .slice x.A x.n x.c], .agg #[.slice A' n c', .int .i64 x'.s, .bool x'.g, .slice x'.A x'.n x'.c]] w fun e w' => RowT e w' n (plZ n zs ys) (z0 + y0) ∧ Below w.heap.size w w' := by
 have HSZ := Lib.hid sz
 have HSX := Lib.hid sx
 have HSZ' := Lib.hid sz'
 have HSX' := Lib.hid sx'
 clear sz sx sz' sx'
 go_enter Tryz.func123, Tryz.ntmps123
 have B0 := bl_alloc (bl_alloc (bl_alloc (Below.refl w.heap.size w) (.cells #[.slice A n c, .int .i64 x.s, .bool x.g, .slice x.A x.n x.c] 60)) (.cells #[.slice A' n c', .int .i64 x'.s, .bool x'.g, .slice x'.A x'.n x'.c] 60)) (.cells #[.slice none 0 0, .int .i64 0, .bool false, .slice none 0 0] 60)
 have a1 := blk_alloc (blk_alloc (blk_at (W := w) (.cells #[.slice A n c, .int .i64 x.s, .bool x.g, .slice x.A x.n x.c] 60) rfl) (.cells #[.slice A' n c', .int .i64 x'.s, .bool x'.g, .slice x'.A x'.n x'.c] 60)) (.cells #[.slice none 0 0, .int .i64 0, .bool false, .slice none 0 0] 60)
 have au := blk_alloc (blk_at (W := w.alloc (.cells #[.slice A n c, .int .i64 x.s, .bool x.g, .slice x.A x.n x.c] 60)) (.cells #[.slice A' n c', .int .i64 x'.s, .bool x'.g, .slice x'.A x'.n x'.c] 60) rfl) (.cells #[.slice none 0 0, .int .i64 0, .bool false, .slice none 0 0] 60)
 have az := blk_at (W := (w.alloc (.cells #[.slice A n c, .int .i64 x.s, .bool x.g, .slice x.A x.n x.c] 60)).alloc (.cells #[.slice A' n c', .int .i64 x'.s, .bool x'.g, .slice x'.A x'.n x'.c] 60)) (.cells #[.slice none 0 0, .int .i64 0, .bool false, .slice none 0 0] 60) rfl
 have hx1 := RV.kp hx (Kp.below B0)
 have hu := RV.kp hx' (Kp.below B0)
 simp only [World.size_alloc] at au az
 obtain ⟨f1, f2, f3, f4, f5⟩ := q4c a1
 obtain ⟨k1, k2, k3, k4, k5⟩ := q4c au
 go_wp2_with fail
 refine (rplus_calls x.s x.g x.A x.n x.c z0 x'.s x'.g x'.A x'.n x'.c y0 _ hx1 hu K HSX.out HSX'.out (by omega)).mono ?_
 rintro e w1 ⟨⟨s1, b1, A1, n1, c1, rfl, t1⟩, hB1⟩
 obtain ⟨y, rfl, rfl, rfl, rfl, rfl, hy0⟩ := jc_mk t1
 clear t1 f1 f2 f3 f4 f5 k1 k2 k3 k4 k5 hx1 hu
 have ar : (w1.alloc (.cells #[.slice none 0 0, .int .i64 y.s, .bool y.g, .slice y.A y.n y.c] 60)).heap[w1.heap.size]? = some (.cells #[.slice none 0 0, .int .i64 y.s, .bool y.g, .slice y.A y.n y.c] 60 (0, 0)) := blk_at _ rfl
 replace a1 := blk_alloc (blk_below a1 hB1) (.cells #[.slice none 0 0, .int .i64 y.s, .bool y.g, .slice y.A y.n y.c] 60)
 replace az := blk_alloc (blk_below az hB1) (.cells #[.slice none 0 0, .int .i64 y.s, .bool y.g, .slice y.A y.n y.c] 60)
 replace au := blk_alloc (blk_below au hB1) (.cells #[.slice none 0 0, .int .i64 y.s, .bool y.g, .slice y.A y.n y.c] 60)
 have hy := RV.al2 hy0 (.cells #[.slice none 0 0, .int .i64 y.s, .bool y.g, .slice y.A y.n y.c] 60)
 replace B0 := bl_alloc (bl_then B0 hB1) (.cells #[.slice none 0 0, .int .i64 y.s, .bool y.g, .slice y.A y.n y.c] 60)
 have l3 : w.heap.size + 1 + 1 < w1.heap.size := by have := hB1.size; simp at this; omega
 clear hB1 hy0
 obtain ⟨f1, f2, f3, f4, f5⟩ := q4c a1
 go_wp2_with fail
 clear f1 f2 f3 f4 f5 a1
 obtain ⟨bs, hbs⟩ : ∃ bs, bs = (w1.alloc (.cells #[.slice none 0 0, .int .i64 y.s, .bool y.g, .slice y.A y.n y.c] 60)).heap.size := ⟨_, rfl⟩
 have hg3 : w1.heap.size < bs := by rw [hbs]; exact blk_lt ar
 generalize w1.heap.size = g3 at *
 generalize w1.alloc (.cells #[.slice none 0 0, .int .i64 y.s, .bool y.g, .slice y.A y.n y.c] 60) = W1 at *
 have hgz : w.heap.size + 1 + 1 < bs := by omega
 have hgu : w.heap.size + 1 < bs := by omega
 have O0 := Kind.Own.nil (K := KR) W1 bs
 go_loopw [17] (fun i wr => ∃ (kk : Nat) (v : Value), kk ≤ n ∧ i = .int .i64 kk ∧ KR.Own wr bs v kk (plZ kk zs ys) ∧ bs ≤ wr.heap.size ∧ wr.heap[g3]? = some (.cells #[v, .int .i64 y.s, .bool y.g, .slice y.A y.n y.c] 60 (0, 0)) ∧ RV wr y.s y.g y.A y.n y.c (z0 + y0) ∧ wr.heap[w.heap.size + 1]? = some (.cells #[.slice A' n c', .int .i64 x'.s, .bool x'.g, .slice x'.A x'.n x'.c] 60 (0, 0)) ∧ wr.heap[w.heap.size + 1 + 1]? = some (.cells #[.slice none 0 0, .int .i64 0, .bool false, .slice none 0 0] 60 (0, 0)) ∧ Below w.heap.size w wr) (fun i _ => n - (intOf i).toNat)
 case atStart => exact ⟨0, _, Nat.zero_le _, rfl, O0, Nat.le_of_eq hbs, ar, hy, au, az, B0⟩
 case round =>
  clear O0 ar hy au az B0
  obtain ⟨kk, v, hkk, rfl, OW, hbz, ar, hy, au, az, B0⟩ := hrel
  by_cases hlt : kk < n
  ·obtain ⟨gb, rfl, lgb, hcb⟩ := h'.2.2 (by omega)
   obtain ⟨b, ⟨q1, q2, q3⟩, hb0⟩ := hcb kk hlt
   obtain ⟨g, rfl, hg, hc⟩ := (h.below B0).2.2 (by omega)
   obtain ⟨z, ⟨p1, p2, p3⟩, hz0⟩ := hc kk hlt
   have hz : RV wr z.s z.g z.A z.n z.c (zs.getD kk 0) := hz0
   have hb : RV w b.s b.g b.A b.n b.c (ys.getD kk 0) := hb0
   have e3b := @cell3_below w gb (kk * 3) _ _ _ lgb q1 q2 q3
   have HC := Lib.hid (HSZ.out kk)
   have HC2 := Lib.hid (HSZ'.out kk)
   have HE := Lib.hid (plZ_succ zs ys kk)
   obtain ⟨Av, cv, rfl, _⟩ := KR.rdR OW (by omega)
   have hk0 : (0 : Int) ≤ (kk : Int) := by omega
   have hkn : (kk : Int) < (n : Int) := by omega
   clear hc h hz0 hcb h' hb0 q1 q2 q3
   generalize zs.getD kk 0 = cz at *
   generalize ys.getD kk 0 = cb at *
   go_upto_region 5 with (fail)
   clear p1 p2 p3 hg
   have a7 : (wr.alloc (.cells #[.int .i64 z.s, .bool z.g, .slice z.A z.n z.c] 49)).heap[wr.heap.size]? = some (.cells #[.int .i64 z.s, .bool z.g, .slice z.A z.n z.c] 49 (0, 0)) := blk_at _ rfl
   replace ar := blk_alloc ar (.cells #[.int .i64 z.s, .bool z.g, .slice z.A z.n z.c] 49)
   replace az := blk_alloc az (.cells #[.int .i64 z.s, .bool z.g, .slice z.A z.n z.c] 49)
   replace au := blk_alloc au (.cells #[.int .i64 z.s, .bool z.g, .slice z.A z.n z.c] 49)
   replace hy := RV.al2 hy (.cells #[.int .i64 z.s, .bool z.g, .slice z.A z.n z.c] 49)
   replace hz := RV.al2 hz (.cells #[.int .i64 z.s, .bool z.g, .slice z.A z.n z.c] 49)
   have OW0 := OW
   replace OW := OW.below KR.ok (bl_alloc (Below.refl _ _) (.cells #[.int .i64 z.s, .bool z.g, .slice z.A z.n z.c] 49))
   have OLT : ∀ b, (Value.slice Av kk cv).ownBlock = some b → b < wr.heap.size := OW0.lt
   replace B0 := bl_alloc B0 (.cells #[.int .i64 z.s, .bool z.g, .slice z.A z.n z.c] 49)
   have hbz4 : bs ≤ (wr.alloc (.cells #[.int .i64 z.s, .bool z.g, .slice z.A z.n z.c] 49)).heap.size := by simp; omega
   generalize wr.heap.size = g7 at *
   generalize wr.alloc (.cells #[.int .i64 z.s, .bool z.g, .slice z.A z.n z.c] 49) = W4 at *
   have ar_0 := blk_drew ar
   have a7_0 := blk_drew a7
   have au_0 := blk_drew au
   have B_0 := bl_drew B0
   have hS0 : W4.drew.cell? ⟨g3, 0, none⟩ = some (Value.slice Av kk cv) ∧ W4.drew.cell? ⟨w.heap.size + 1, 0, none⟩ = some (Value.slice (some ⟨gb, 0, none⟩) n c') ∧ (W4.drew.cell? ⟨g7, 0, none⟩ = some (Value.int .i64 z.s) ∧ W4.drew.cell? ⟨g7, 1, none⟩ = some (Value.bool z.g) ∧ W4.drew.cell? ⟨g7, 2, none⟩ = some (Value.slice z.A z.n z.c)) ∧ W4.drew.cell? ⟨gb, kk * 3, none⟩ = some (Value.int .i64 b.s) ∧ W4.drew.cell? ⟨gb, kk * 3 + 1, none⟩ = some (Value.bool b.g) ∧ W4.drew.cell? ⟨gb, kk * 3 + 2, none⟩ = some (Value.slice b.A b.n b.c) := And.intro (q4c ar_0).1 (And.intro (q4c au_0).1 (And.intro (bx3 a7_0).1 (e3b B_0)))
   refine wp_region_T (n := 12) (fun W => W.cell? ⟨g3, 0, none⟩ = some (Value.slice Av kk cv) ∧ W.cell? ⟨w.heap.size + 1, 0, none⟩ = some (Value.slice (some ⟨gb, 0, none⟩) n c') ∧ (W.cell? ⟨g7, 0, none⟩ = some (Value.int .i64 z.s) ∧ W.cell? ⟨g7, 1, none⟩ = some (Value.bool z.g) ∧ W.cell? ⟨g7, 2, none⟩ = some (Value.slice z.A z.n z.c)) ∧ W.cell? ⟨gb, kk * 3, none⟩ = some (Value.int .i64 b.s) ∧ W.cell? ⟨gb, kk * 3 + 1, none⟩ = some (Value.bool b.g) ∧ W.cell? ⟨gb, kk * 3 + 2, none⟩ = some (Value.slice b.A b.n b.c)) (by kernel_rfl) ?_
   refine wpT_take (n := 12) (i := 0) (v := ?_) (by decide) (by kernel_rfl) rfl (by kernel_rfl) (by kernel_rfl) (by kernel_rfl) (fun _ _ _ h => h) (Or.inl ⟨by rfl, ?_⟩) hS0 ?_
   rotate_left
   ·intro w' hSw
    (try dsimp only at hSw)
    go_simp
    (try with_reducible rfl)
   try simp only [Act.put, List.setIfInBounds_toArray, List.set_cons_zero, List.set_cons_succ]
   refine wpT_take (n := 12) (i := 1) (v := ?_) (by decide) (by kernel_rfl) rfl (by kernel_rfl) (by kernel_rfl) (by kernel_rfl) (fun _ _ _ h => h) (Or.inl ⟨by rfl, ?_⟩) hS0 ?_
   rotate_left
   ·intro w' hSw
    (try dsimp only at hSw)
    go_simp
    (try with_reducible rfl)
   try simp only [Act.put, List.setIfInBounds_toArray, List.set_cons_zero, List.set_cons_succ]
   refine wpT_take (n := 12) (i := 2) (v := ?_) (by decide) (by kernel_rfl) rfl (by kernel_rfl) (by kernel_rfl) (by kernel_rfl) (fun _ _ _ h => h) (Or.inl ⟨by rfl, ?_⟩) hS0 ?_
   rotate_left
   ·intro w' hSw
    (try dsimp only at hSw)
    go_simp
    (try with_reducible rfl)
   try simp only [Act.put, List.setIfInBounds_toArray, List.set_cons_zero, List.set_cons_succ]
   refine wpT_take (n := 12) (i := 3) (v := ?_) (by decide) (by kernel_rfl) rfl (by kernel_rfl) (by kernel_rfl) (by kernel_rfl) (fun _ _ _ h => h) (Or.inl ⟨by rfl, ?_⟩) hS0 ?_
   rotate_left
   ·intro w' hSw
    (try dsimp only at hSw)
    go_simp
    (try with_reducible rfl)
   try simp only [Act.put, List.setIfInBounds_toArray, List.set_cons_zero, List.set_cons_succ]
   refine wpT_take (n := 12) (i := 4) (v := ?_) (by decide) (by kernel_rfl) rfl (by kernel_rfl) (by kernel_rfl) (by kernel_rfl) (fun _ _ _ h => h) (Or.inl ⟨by rfl, ?_⟩) hS0 ?_
   rotate_left
   ·intro w' hSw
    (try dsimp only at hSw)
    go_simp
    (try with_reducible rfl)
   try simp only [Act.put, List.setIfInBounds_toArray, List.set_cons_zero, List.set_cons_succ]
   refine wpT_take (n := 12) (i := 5) (v := ?_) (by decide) (by kernel_rfl) rfl (by kernel_rfl) (by kernel_rfl) (by kernel_rfl) (fun _ _ _ h => h) (Or.inl ⟨by rfl, ?_⟩) hS0 ?_
   rotate_left
   ·intro w' hSw
    (try dsimp only at hSw)
    go_simp
    (try with_reducible rfl)
   try simp only [Act.put, List.setIfInBounds_toArray, List.set_cons_zero, List.set_cons_succ]
   refine wpT_take (n := 12) (i := 6) (v := ?_) (by decide) (by kernel_rfl) rfl (by kernel_rfl) (by kernel_rfl) (by kernel_rfl) (fun _ _ _ h => h) (Or.inl ⟨by rfl, ?_⟩) hS0 ?_
   rotate_left
   ·intro w' hSw
    (try dsimp only at hSw)
    go_simp
    (try with_reducible rfl)
   try simp only [Act.put, List.setIfInBounds_toArray, List.set_cons_zero, List.set_cons_succ]
   refine wpT_take (n := 12) (i := 7) (v := ?_) (by decide) (by kernel_rfl) rfl (by kernel_rfl) (by kernel_rfl) (by kernel_rfl) (fun _ _ _ h => h) (Or.inl ⟨by rfl, ?_⟩) hS0 ?_
   rotate_left
   ·intro w' hSw
    (try dsimp only at hSw)
    go_simp
    (try with_reducible rfl)
   try simp only [Act.put, List.setIfInBounds_toArray, List.set_cons_zero, List.set_cons_succ]
   refine wpT_one (n := 12) (i := 8) (by kernel_rfl) rfl (fun K9 hK9 => ?_)
   go_simp
   refine (rplus_calls z.s z.g z.A z.n z.c cz b.s b.g b.A b.n b.c cb _ (RV.below hz (bl_drew (Below.refl _ _))) (RV.kp hb (Kp.below B_0)) K HC.out HC2.out (by omega)).mono ?_
   rintro e y1 ⟨⟨s2, b2, A2, n2, c2, rfl, t2⟩, hB1⟩
   have H1 : Below W4.heap.size W4 y1 := bl_then (bl_drew (Below.refl _ _)) hB1
   have ar_1 := blk_below ar H1
   have a7_1 := blk_below a7 H1
   have au_1 := blk_below au H1
   have B_1 := bl_then B0 H1
   have hS1 : y1.cell? ⟨g3, 0, none⟩ = some (Value.slice Av kk cv) ∧ y1.cell? ⟨w.heap.size + 1, 0, none⟩ = some (Value.slice (some ⟨gb, 0, none⟩) n c') ∧ (y1.cell? ⟨g7, 0, none⟩ = some (Value.int .i64 z.s) ∧ y1.cell? ⟨g7, 1, none⟩ = some (Value.bool z.g) ∧ y1.cell? ⟨g7, 2, none⟩ = some (Value.slice z.A z.n z.c)) ∧ y1.cell? ⟨gb, kk * 3, none⟩ = some (Value.int .i64 b.s) ∧ y1.cell? ⟨gb, kk * 3 + 1, none⟩ = some (Value.bool b.g) ∧ y1.cell? ⟨gb, kk * 3 + 2, none⟩ = some (Value.slice b.A b.n b.c) := And.intro (q4c ar_1).1 (And.intro (q4c au_1).1 (And.intro (bx3 a7_1).1 (e3b B_1)))
   refine hK9.out _ _ (fun _ => hS1) (fun _ => ?_)
   clear hK9 K9
   try simp only [Act.put, List.setIfInBounds_toArray, List.set_cons_zero, List.set_cons_succ]
   refine wpT_one (n := 12) (i := 9) (by kernel_rfl) rfl (fun K9 hK9 => ?_)
   go_simp
   have H2 : Below W4.heap.size W4 (y1.alloc (.cells #[.int .i64 s2, .bool b2, .slice A2 n2 c2] 49)) := bl_alloc H1 _
   have ar_2 := blk_below ar H2
   have a7_2 := blk_below a7 H2
   have au_2 := blk_below au H2
   have B_2 := bl_then B0 H2
   have hS2 : (y1.alloc (.cells #[.int .i64 s2, .bool b2, .slice A2 n2 c2] 49)).cell? ⟨g3, 0, none⟩ = some (Value.slice Av kk cv) ∧ (y1.alloc (.cells #[.int .i64 s2, .bool b2, .slice A2 n2 c2] 49)).cell? ⟨w.heap.size + 1, 0, none⟩ = some (Value.slice (some ⟨gb, 0, none⟩) n c') ∧ ((y1.alloc (.cells #[.int .i64 s2, .bool b2, .slice A2 n2 c2] 49)).cell? ⟨g7, 0, none⟩ = some (Value.int .i64 z.s) ∧ (y1.alloc (.cells #[.int .i64 s2, .bool b2, .slice A2 n2 c2] 49)).cell? ⟨g7, 1, none⟩ = some (Value.bool z.g) ∧ (y1.alloc (.cells #[.int .i64 s2, .bool b2, .slice A2 n2 c2] 49)).cell? ⟨g7, 2, none⟩ = some (Value.slice z.A z.n z.c)) ∧ (y1.alloc (.cells #[.int .i64 s2, .bool b2, .slice A2 n2 c2] 49)).cell? ⟨gb, kk * 3, none⟩ = some (Value.int .i64 b.s) ∧ (y1.alloc (.cells #[.int .i64 s2, .bool b2, .slice A2 n2 c2] 49)).cell? ⟨gb, kk * 3 + 1, none⟩ = some (Value.bool b.g) ∧ (y1.alloc (.cells #[.int .i64 s2, .bool b2, .slice A2 n2 c2] 49)).cell? ⟨gb, kk * 3 + 2, none⟩ = some (Value.slice b.A b.n b.c) := And.intro (q4c ar_2).1 (And.intro (q4c au_2).1 (And.intro (bx3 a7_2).1 (e3b B_2)))
   refine hK9.out _ _ (fun _ => hS2) (fun _ => ?_)
   clear hK9 K9
   try simp only [Act.put, List.setIfInBounds_toArray, List.set_cons_zero, List.set_cons_succ]
   have O1 := OW.below KR.ok H2
   have t3 : KR.Is (y1.alloc (.cells #[.int .i64 s2, .bool b2, .slice A2 n2 c2] 49)) ⟨s2, b2, A2, n2, c2⟩ (cz + cb) := RV.al2 t2 _
   obtain ⟨v', W', hrun, O2, hgr⟩ := appg1 (c := 1) (g := y1.heap.size) KR.ok 58 _ 40 info_rint Tryz.underlying58 rfl (by omega) O1 ⟨s2, b2, A2, n2, c2⟩ (cz + cb) _ (blk_at _ rfl) rfl t3 (by omega) (Nat.le_trans hbz4 H2.size)
   rw [← HE.out] at O2
   have B_3 : Below w.heap.size w W' := below_of_grown B_2 hgr B_2.size (fun b hb => by have := O1.ge b hb; omega)
   have HR := Lib.hid hrun
   have ar_3 := blk_grown hgr ar_2 O1.ge hg3
   have az_3 := blk_grown hgr (blk_below az H2) O1.ge hgz
   have au_3 := blk_grown hgr au_2 O1.ge hgu
   have a7_3 := (hgr.block g7 (blk_lt a7_2) (fun e => by have := OLT g7 e.symm; omega)).trans a7_2
   have hy_3 := (RV.below hy H2).kp (O1.kpg hgr 3 (by decide))
   have hbz3 : bs ≤ W'.heap.size := Nat.le_trans (Nat.le_trans hbz4 H2.size) hgr.size
   have hS3 : W'.cell? ⟨g3, 0, none⟩ = some (Value.slice Av kk cv) ∧ W'.cell? ⟨w.heap.size + 1, 0, none⟩ = some (Value.slice (some ⟨gb, 0, none⟩) n c') ∧ (W'.cell? ⟨g7, 0, none⟩ = some (Value.int .i64 z.s) ∧ W'.cell? ⟨g7, 1, none⟩ = some (Value.bool z.g) ∧ W'.cell? ⟨g7, 2, none⟩ = some (Value.slice z.A z.n z.c)) ∧ W'.cell? ⟨gb, kk * 3, none⟩ = some (Value.int .i64 b.s) ∧ W'.cell? ⟨gb, kk * 3 + 1, none⟩ = some (Value.bool b.g) ∧ W'.cell? ⟨gb, kk * 3 + 2, none⟩ = some (Value.slice b.A b.n b.c) := And.intro (q4c ar_3).1 (And.intro (q4c au_3).1 (And.intro (bx3 a7_3).1 (e3b B_3)))
   clear hrun
   refine wpT_one (n := 12) (i := 10) (by kernel_rfl) rfl (fun K9 hK9 => ?_)
   refine oper_ap rfl (.tmp 23) (.tmp 31) 58 (by rfl) _ _ (by rfl) (by rfl) _ (by rfl) _ _ HR.out ?_
   refine hK9.out _ _ (fun _ => hS3) (fun _ => ?_)
   clear hK9 K9
   try simp only [Act.put, List.setIfInBounds_toArray, List.set_cons_zero, List.set_cons_succ]
   refine wpT_take (n := 12) (i := 11) (v := ?_) (by decide) (by kernel_rfl) rfl (by kernel_rfl) (by kernel_rfl) (by kernel_rfl) (fun _ _ _ h => h) (Or.inl ⟨by rfl, ?_⟩) hS3 ?_
   rotate_left
   ·intro w' hSw
    (try dsimp only at hSw)
    go_simp
    (try with_reducible rfl)
   try simp only [Act.put, List.setIfInBounds_toArray, List.set_cons_zero, List.set_cons_succ]
   obtain ⟨A9, c9, rfl, _⟩ := KR.rdR O2 (by omega)
   have FF := q4c ar_3
   obtain ⟨k1, k2, k3, k4, k5, k6, k7, k8⟩ := FF
   refine wpT_one (n := 12) (i := 12) (by kernel_rfl) rfl (fun K9 hK9 => ?_)
   go_simp
   refine hK9.out _ _ (fun h => absurd rfl h) (fun _ => ?_)
   clear hK9 K9
   try simp only [Act.put, List.setIfInBounds_toArray, List.set_cons_zero, List.set_cons_succ]
   refine wpT_done (by kernel_rfl) ?_ _
   have kpr : ∀ t, 60 ≠ t → Kp t W' (W'.setCell ⟨g3, 0, none⟩ (.slice A9 (kk + 1) c9)) := fun t ht => (Kp.refl _ _).set (p := ⟨g3, 0, none⟩) ar_3 ht _
   have X1 : (W'.setCell ⟨g3, 0, none⟩ (.slice A9 (kk + 1) c9)).heap[g3]? = some (.cells #[.slice A9 (kk + 1) c9, .int .i64 y.s, .bool y.g, .slice y.A y.n y.c] 60 (0, 0)) := blk_set ar_3 0 _
   have X2 := O2.kps (kpr 49 (by decide)) (fun y r h => RV.kp h (kpr 3 (by decide)))
   have X3 := hy_3.kp (kpr 3 (by decide))
   have X5 := blk_far (i := 0) (v := .slice A9 (kk + 1) c9) az_3 (show w.heap.size + 1 + 1 ≠ g3 by omega)
   have X6 := blk_far (i := 0) (v := .slice A9 (kk + 1) c9) au_3 (show w.heap.size + 1 ≠ g3 by omega)
   have X7 := bl_set B_3 (p := ⟨g3, 0, none⟩) (show w.heap.size ≤ g3 by omega) (.slice A9 (kk + 1) c9)
   have X8 : bs ≤ (W'.setCell ⟨g3, 0, none⟩ (.slice A9 (kk + 1) c9)).heap.size := by simpa using hbz3
   go_wp2
   go_roundw
   case rel => exact ⟨kk + 1, _, hlt, by go_num, X2, X8, X1, X3, X6, X5, X7⟩
   case measure => simp [intOf]; omega
  ·have hkn : n = kk := by omega
   subst hkn
   obtain ⟨Av, cv, rfl, _⟩ := KR.rdR OW (by omega)
   obtain ⟨k1, k2, k3, k4, k5, k6, k7, k8⟩ := q4c ar
   obtain ⟨m1, m2, m3, m4, m5, m6, m7, m8⟩ := q4c az
   have U1 := blk_set4 az (.slice Av n cv) (.int .i64 y.s) (.bool y.g) (.slice y.A y.n y.c)
   have kpr : ∀ t, 60 ≠ t → Kp t wr _ := fun t ht => q4kp az ht (.slice Av n cv) (.int .i64 y.s) (.bool y.g) (.slice y.A y.n y.c)
   have U2 := OW.kps (kpr 49 (by decide)) (fun y r h => RV.kp h (kpr 3 (by decide)))
   have U3 := hy.kp (kpr 3 (by decide))
   have U4 := q4_bl (i1 := 0) (i2 := 1) (i3 := 2) (i4 := 3) B0 (show w.heap.size ≤ w.heap.size + 1 + 1 by omega) (.slice Av n cv) (.int .i64 y.s) (.bool y.g) (.slice y.A y.n y.c)
   obtain ⟨A8, c8, e8, U5⟩ := KR.rdT U2 (by omega)
   cases e8
   clear kpr
   go_wp2
   refine bodyPost_ret (results_cell_row rfl _ _ (w.heap.size + 1 + 1) 60 #[.slice Av n cv, .int .i64 y.s, .bool y.g, .slice y.A y.n y.c] (0, 0) _ rfl U1 Tryz.underlying60 rfl (by kernel_rfl)) rfl ?_
   exact ⟨⟨Av, cv, y, rfl, U5, U3⟩, U4⟩
end Go.Proofs.YtloplmmnmehkmaaGreat

namespace Go.Proofs.YtloplmmnmehkmaaGreat
open Go.RowKit

set_option maxHeartbeats 40000000
set_option maxRecDepth 100000
theorem r2vforms_calls (n : Int) (A : Option Addr) (m c : Nat) (F : List Fm) (w : World) (h : RdF w A m F) :
  Calls Tryz.prog 46 #[.int .i64 n, .slice A m c] w fun e w' => e = .returned (.bool (decide (OkFs n F))) ∧ Below w.heap.size w w' := by
 have L := Lib.hid h.1
 generalize hB : decide (OkFs n F) = B
 have HB := Lib.hid hB
 clear hB
 have HNO : Hid (¬ OkFs n F → B = false) := Lib.hid fun h => by rw [← HB.out, decide_eq_false h]
 have HYES : Hid (OkFs n F → B = true) := Lib.hid fun h => by rw [← HB.out, decide_eq_true h]
 by_cases d1 : n < 0
 ·have hf := HNO.out fun hh => by have := hh.1.1; omega
  subst hf
  have d3 : decide (n < 0) = true := decide_eq_true d1
  go_enter Tryz.func46, Tryz.ntmps46
  go_wp2
  go_ret
  exact ⟨rfl, Below.refl _ _⟩
 ·have d3 : decide (n < 0) = false := decide_eq_false d1
  by_cases d2 : 8 < n
  ·have hf := HNO.out fun hh => by have := hh.1.2; omega
   subst hf
   have d4 : decide (8 < n) = true := decide_eq_true d2
   go_enter Tryz.func46, Tryz.ntmps46
   go_wp2
   go_ret
   exact ⟨rfl, Below.refl _ _⟩
  ·have d4 : decide (8 < n) = false := decide_eq_false d2
   by_cases d5 : (120 : Int) < (m : Int)
   ·have hf := HNO.out fun hh => by have := hh.2.1; rw [L.out] at this; omega
    subst hf
    have d6 : decide ((120 : Int) < (m : Int)) = true := decide_eq_true d5
    go_enter Tryz.func46, Tryz.ntmps46
    go_wp2
    go_ret
    exact ⟨rfl, Below.refl _ _⟩
   ·have d6 : decide ((120 : Int) < (m : Int)) = false := decide_eq_false d5
    go_enter Tryz.func46, Tryz.ntmps46
    go_wp2_with fail
    have B0 := Below.refl w.heap.size w
    go_loopw [20] (fun i wr => ∃ (kk : Nat), kk ≤ m ∧ i = .int .i64 kk ∧ (∀ j, j < kk → OkF n (F.getD j ([], 0))) ∧ Below w.heap.size w wr) (fun i _ => m - (intOf i).toNat)
    case atStart => exact ⟨0, Nat.zero_le _, rfl, fun j hj => absurd hj (by omega), B0⟩
    case round =>
     clear B0
     obtain ⟨kk, hkk, rfl, hall, B0⟩ := hrel
     have HALL := Lib.hid hall
     clear hall
     by_cases hlt : kk < m
     ·obtain ⟨g, off, rfl, hg, hc⟩ := (h.below B0).2.2 (by omega)
      obtain ⟨A1, n1, c1, p1, p2, p3⟩ := hc kk hlt
      clear hc h
      generalize hf1 : F.getD kk ([], 0) = f1 at *
      have HF1 := Lib.hid hf1
      have HME := Lib.hid (mem_getD (d := (([], 0) : Fm)) (by rw [L.out]; exact hlt : kk < F.length))
      clear hf1
      have a7 : (wr.alloc (.cells #[.slice A1 n1 c1, .int .i64 f1.2] 44)).heap[wr.heap.size]? = some (.cells #[.slice A1 n1 c1, .int .i64 f1.2] 44 (0, 0)) := blk_at _ rfl
      have p4 := p3.below (bl_alloc (Below.refl _ _) (.cells #[.slice A1 n1 c1, .int .i64 f1.2] 44))
      replace B0 := bl_alloc B0 (.cells #[.slice A1 n1 c1, .int .i64 f1.2] 44)
      obtain ⟨k1, k2, k3, k4⟩ := bx2 a7
      go_wp2_with fail
      refine (r2vform_calls n A1 n1 c1 f1 _ p4).mono ?_
      rintro e w1 ⟨he, hB1⟩
      replace B0 := bl_then B0 hB1
      clear hB1 p1 p2 p3 p4 k1 k2 k3 k4 a7 hg
      by_cases hok : OkF n f1
      ·rw [decide_eq_true hok] at he
       subst he
       replace hok := Lib.hid hok
       go_wp2
       go_roundw
       case rel =>
        refine ⟨kk + 1, hlt, by go_num, ?_, B0⟩
        intro j hj
        rcases Nat.lt_or_ge j kk with h1 | h1
        ·exact HALL.out j h1
        ·have : j = kk := by omega
         subst this
         rw [HF1.out]
         exact hok.out
       case measure => simp [intOf]; omega
      ·rw [decide_eq_false hok] at he
       subst he
       have hf : B = false := HNO.out fun hh => by
        have := hh.2.2 _ HME.out
        rw [HF1.out] at this
        exact hok this
       subst hf
       go_wp2
       go_ret
       exact ⟨rfl, B0⟩
     ·have hf : B = true := HYES.out ⟨⟨by omega, by omega⟩, by rw [L.out]; omega, all_of_getD fun j hj => HALL.out j (by rw [L.out] at hj; omega)⟩
      subst hf
      go_wp2
      go_ret
      exact ⟨rfl, B0⟩
/-- A slice of rows of the reference that is read. -/
def RdWJ (w : World) (A : Option Addr) (n : Nat) (F : List Fm) : Prop :=
 F.length = n ∧ n ≤ 1000000 ∧ (0 < n → ∃ g, A = some ⟨g, 0, none⟩ ∧ (∃ cs, w.heap[g]? = some (.cells cs 60 (0, 0))) ∧ ∀ j, j < n → ∃ y : WJ, (w.cell? ⟨g, j * 4, none⟩ = some (.slice y.A y.n y.c) ∧ w.cell? ⟨g, j * 4 + 1, none⟩ = some (.int .i64 y.x.s) ∧ w.cell? ⟨g, j * 4 + 2, none⟩ = some (.bool y.x.g) ∧ w.cell? ⟨g, j * 4 + 3, none⟩ = some (.slice y.x.A y.x.n y.x.c)) ∧ RdT w y.A y.n (F.getD j ([], 0)).1 ∧ y.x.Is w (F.getD j ([], 0)).2)
theorem RdWJ.below {w w' : World} {A : Option Addr} {n : Nat} {F : List Fm} (h : RdWJ w A n F) (hb : Below w.heap.size w w') : RdWJ w' A n F := by
 refine ⟨h.1, h.2.1, fun hn => ?_⟩
 obtain ⟨g, e, ⟨cs, hg⟩, hc⟩ := h.2.2 hn
 have hg' := blk_below hg hb
 refine ⟨g, e, ⟨cs, hg'⟩, fun j hj => ?_⟩
 obtain ⟨x, ⟨h1, h2, h3, h4⟩, h5, h6⟩ := hc j hj
 exact ⟨x, ⟨(cell_blk hg hg').trans h1, (cell_blk hg hg').trans h2, (cell_blk hg hg').trans h3, (cell_blk hg hg').trans h4⟩, h5.below hb, RV.kp h6 (Kp.below hb)⟩
theorem KW.rd {w : World} {base n : Nat} {v : Value} {F : List Fm} (h : KW.Own w base v n F) (hn : n ≤ 1000000) : ∃ A c, v = .slice A n c ∧ RdWJ w A n F := by
 obtain ⟨A, c, rfl, h1, h2, _, h3⟩ := Kind.Own.rd KW.ok h
 refine ⟨A, c, rfl, h1, hn, fun hp => ?_⟩
 obtain ⟨g, cs, rfl, hg, hc⟩ := h3 hp
 refine ⟨g, rfl, ⟨cs, hg⟩, fun j hj => ?_⟩
 obtain ⟨y, hy, hi⟩ := hc j hj
 exact ⟨y, ⟨hy 0 (by decide), hy 1 (by decide), hy 2 (by decide), hy 3 (by decide)⟩, hi.1, hi.2⟩
theorem r2all_calls (A : Option Addr) (m c : Nat) (F : List Fm) (w : World) (h : RdF w A m F) (hi : ∀ f ∈ F, I64F f ∧ f.1.length ≤ 500) (hm : m ≤ 500) :
  Calls Tryz.prog 48 #[.slice A m c] w fun e w' => (∃ A' c', e = .returned (.slice A' m c') ∧ RdWJ w' A' m F) ∧ Below w.heap.size w w' := by
 have L := Lib.hid h.1
 have HI := Lib.hid hi
 clear hi
 go_enter Tryz.func48, Tryz.ntmps48
 have O0 := Kind.Own.nil (K := KW) w w.heap.size
 have B0 := Below.refl w.heap.size w
 go_wp2_with fail
 go_loopw [3, 8] (fun v i wr => ∃ kk : Nat, kk ≤ m ∧ i = .int .i64 kk ∧ KW.Own wr w.heap.size v kk (F.take kk) ∧ Below w.heap.size w wr) (fun _ i _ => m - (intOf i).toNat)
 case atStart => exact ⟨0, Nat.zero_le _, rfl, O0, B0⟩
 case round =>
  clear O0 B0
  obtain ⟨kk, hkk, rfl, OW, B0⟩ := hrel
  by_cases hlt : kk < m
  ·obtain ⟨g, off, rfl, hg, hc⟩ := (h.below B0).2.2 (by omega)
   obtain ⟨A1, n1, c1, p1, p2, p3⟩ := hc kk hlt
   have E := Lib.hid (take_snoc F ([], 0) kk (by rw [L.out]; exact hlt))
   obtain ⟨hi1, hi2⟩ := HI.out _ (mem_getD (d := (([], 0) : Fm)) (by rw [L.out]; exact hlt) : F.getD kk ([], 0) ∈ F)
   have hn1 := p3.1
   clear hc h
   generalize F.getD kk ([], 0) = f1 at *
   have a7 : (wr.alloc (.cells #[.slice A1 n1 c1, .int .i64 f1.2] 44)).heap[wr.heap.size]? = some (.cells #[.slice A1 n1 c1, .int .i64 f1.2] 44 (0, 0)) := blk_at _ rfl
   have p4 := p3.below (bl_alloc (Below.refl _ _) (.cells #[.slice A1 n1 c1, .int .i64 f1.2] 44))
   replace OW := OW.below KW.ok (bl_alloc (Below.refl _ _) (.cells #[.slice A1 n1 c1, .int .i64 f1.2] 44))
   replace B0 := bl_alloc B0 (.cells #[.slice A1 n1 c1, .int .i64 f1.2] 44)
   obtain ⟨k1, k2, k3, k4⟩ := bx2 a7
   go_wp2_with fail
   refine (r2tot_calls A1 n1 c1 f1 _ p4 hi1 (by omega)).mono ?_
   rintro e w1 ⟨⟨A2, c2, x2, rfl, t2, t2'⟩, hB1⟩
   replace OW := OW.below KW.ok hB1
   replace B0 := bl_then B0 hB1
   clear hB1 p1 p2 p3 p4 k1 k2 k3 k4 a7 hg hn1
   replace OW := OW.below KW.ok (bl_alloc (Below.refl _ _) (.cells #[.slice A2 n1 c2, .int .i64 x2.s, .bool x2.g, .slice x2.A x2.n x2.c] 60))
   have B1 := bl_alloc B0 (.cells #[.slice A2 n1 c2, .int .i64 x2.s, .bool x2.g, .slice x2.A x2.n x2.c] 60)
   have t3 : KW.Is (w1.alloc (.cells #[.slice A2 n1 c2, .int .i64 x2.s, .bool x2.g, .slice x2.A x2.n x2.c] 60)) ⟨A2, n1, c2, x2⟩ f1 := ⟨t2.below (bl_alloc (Below.refl _ _) _), RV.al2 t2' _⟩
   obtain ⟨v', W', hrun, O2, hgr⟩ := appg1 (c := 1) (g := w1.heap.size) KW.ok 78 _ 64 info_rrow Tryz.underlying78 rfl (by omega) OW ⟨A2, n1, c2, x2⟩ f1 _ (blk_at _ rfl) rfl t3 (by omega) B1.size
   rw [← E.out] at O2
   have HR := Lib.hid hrun
   have HO := Lib.hid O2
   have V2 : Hid (Below w.heap.size w W') := Lib.hid (below_of_grown B1 hgr B1.size OW.ge)
   clear hrun O2 hgr OW B1 t2 t3 t2'
   go_wp2_with (at_builtin; refine wpList_ap rfl (.tmp 12) (.tmp 15) 78 (by rfl) _ _ (by rfl) (by rfl) _ (by rfl) _ _ HR.out ?_)
   go_roundw
   case rel => exact ⟨kk + 1, hlt, by go_num, HO.out, V2.out⟩
   case measure => simp [intOf]; omega
  ·have hkn : m = kk := by omega
   subst hkn
   obtain ⟨A', c', rfl, hrd⟩ := KW.rd OW (by omega)
   rw [List.take_of_length_le (by rw [L.out]; exact Nat.le_refl _)] at hrd
   have HRD := Lib.hid hrd
   clear OW hrd
   go_wp2
   go_ret
   exact ⟨⟨A', c', rfl, HRD.out⟩, B0⟩
end Go.Proofs.YtloplmmnmehkmaaGreat

namespace Go.Proofs.YtloplmmnmehkmaaGreat
open Go.RowKit

theorem map_sz {K L : Nat} {f : Int → Int} {zs : List Int} (hf : ∀ z, Sz K z → Sz L (f z)) (hz : ∀ j, Sz K (zs.getD j 0)) (j : Nat) : Sz L ((zs.map f).getD j 0) := by
 rcases Nat.lt_or_ge j zs.length with h | h
 ·rw [getD_map f zs j 0 0 h]; exact hf _ (hz j)
 ·rw [List.getD_eq_getElem?_getD, List.getElem?_eq_none (by simpa using h)]; exact Nat.two_pow_pos L
theorem plZ_at (n : Nat) (zs ys : List Int) (j : Nat) (h : j < n) : (plZ n zs ys).getD j 0 = zs.getD j 0 + ys.getD j 0 := by
 unfold plZ
 rw [getD_map (fun i => zs.getD i 0 + ys.getD i 0) (List.range n) j 0 0 (by simpa using h)]
 rw [show (List.range n).getD j 0 = j by rw [List.getD_eq_getElem?_getD, List.getElem?_range h]; rfl]
theorem plZ_sz {K : Nat} (n : Nat) {zs ys : List Int} (h : ∀ j, Sz K (zs.getD j 0)) (h' : ∀ j, Sz K (ys.getD j 0)) (j : Nat) : Sz (K + 1) ((plZ n zs ys).getD j 0) := by
 rcases Nat.lt_or_ge j n with hj | hj
 ·rw [plZ_at n zs ys j hj]; exact (h j).add (h' j)
 ·rw [List.getD_eq_getElem?_getD, List.getElem?_eq_none (by unfold plZ; simpa using hj)]; exact Nat.two_pow_pos _
def tmZ (r : Fm) (k : Int) : Fm := (r.1.map (· * k), r.2 * k)
def plF (n : Nat) (a b : Fm) : Fm := (plZ n a.1 b.1, a.2 + b.2)
/-- Clear, by a row with a positive leading coefficient. -/
def clZ (n v : Nat) (q r : Fm) : Fm := if r.1.getD v 0 = 0 then r else pmZ n (plF n (tmZ r (q.1.getD v 0)) (tmZ q (-r.1.getD v 0)))
set_option maxHeartbeats 40000000
set_option maxRecDepth 100000
end Go.Proofs.YtloplmmnmehkmaaGreat

namespace Go.Proofs.YtloplmmnmehkmaaGreat
open Go.RowKit

theorem pz_sz {K : Nat} {g z : Int} (h : Sz K z) : Sz K (pz g z) := by
 unfold pz
 by_cases hg : g = 0
 ·rw [if_pos hg]; exact h
 ·rw [if_neg hg]; exact h.le (tdiv_abs z g)
theorem rowF_len (r : Fm) : (rowF r).1.length = r.1.length := by simp [rowF]
theorem rowF_at (r : Fm) (k : Nat) (h : k < r.1.length) : rv (rowF r) k = ((r.1.getD k 0 : Int) : Rat) := by
 rw [rv_lt _ _ (by rw [rowF_len]; exact h)]
 exact getD_map (fun x : Int => (x : Rat)) r.1 k 0 0 h
theorem rowF_tm (r : Fm) (k : Int) : rowF (tmZ r k) = tms (rowF r) (k : Rat) := by
 refine Prod.ext ?_ ?_
 ·show (r.1.map (· * k)).map (fun x : Int => (x : Rat)) = (r.1.map fun x : Int => (x : Rat)).map (· * (k : Rat))
  rw [List.map_map, List.map_map]
  exact List.map_congr_left fun x _ => Rat.intCast_mul x k
 ·exact Rat.intCast_mul r.2 k
theorem rowF_pl {n : Nat} {a b : Fm} (ha : a.1.length = n) (hb : b.1.length = n) : rowF (plF n a b) = pls (rowF a) (rowF b) := by
 refine Prod.ext ?_ ?_
 ·show (plZ n a.1 b.1).map (fun x : Int => (x : Rat)) = List.zipWith (· + ·) (a.1.map fun x : Int => (x : Rat)) (b.1.map fun x : Int => (x : Rat))
  refine List.ext_getElem (by simp [plZ, ha, hb]) fun i h1 h2 => ?_
  simp only [plZ, List.getElem_map, List.getElem_range, List.getElem_zipWith]
  have ea : a.1.getD i 0 = a.1[i]'(by simp [plZ] at h1; omega) := by rw [List.getD_eq_getElem?_getD, List.getElem?_eq_getElem]; rfl
  have eb : b.1.getD i 0 = b.1[i]'(by simp [plZ] at h1; omega) := by rw [List.getD_eq_getElem?_getD, List.getElem?_eq_getElem]; rfl
  rw [ea, eb, Rat.intCast_add]
 ·exact Rat.intCast_add a.2 b.2
/-- Minus. -/
def niZ (r : Fm) : Fm := (r.1.map fun x => -x, -r.2)
theorem rowF_ni (r : Fm) : rowF (niZ r) = tms (rowF r) (-1) := by
 have : niZ r = tmZ r (-1) := by
  refine Prod.ext ?_ ?_
  ·show r.1.map (fun x => -x) = r.1.map (· * (-1))
   exact List.map_congr_left fun x _ => by omega
  ·show -r.2 = r.2 * (-1); omega
 rw [this, rowF_tm]; rfl
theorem pmZ_len {n : Nat} (r : Fm) : (pmZ n r).1.length = r.1.length := by simp [pmZ]
theorem plF_len {n : Nat} (a b : Fm) : (plF n a b).1.length = n := by simp [plF, plZ]
theorem clZ_len {n v : Nat} {q r : Fm} (hr : r.1.length = n) : (clZ n v q r).1.length = n := by
 unfold clZ
 split
 ·exact hr
 ·rw [pmZ_len, plF_len]
/-- What Clear does to a row. -/
theorem cl_spec {n v : Nat} {q r : Fm} (hq : q.1.length = n) (hr : r.1.length = n) (hv : v < n) (h0 : 0 < q.1.getD v 0) :
  ∃ a b : Rat, 0 < a ∧ (∀ k, rv (rowF (clZ n v q r)) k = a * rv (rowF r) k + b * rv (rowF q) k) ∧ rv (rowF (clZ n v q r)) v = 0 ∧ (Pm (rv (rowF r)) → (∃ k, rv (rowF (clZ n v q r)) k ≠ 0) → Pm (rv (rowF (clZ n v q r)))) := by
 have er := rowF_at r v (by omega)
 have eq := rowF_at q v (by omega)
 unfold clZ
 by_cases hz : r.1.getD v 0 = 0
 ·rw [if_pos hz]
  refine ⟨1, 0, by decide, fun k => by grind, ?_, fun h _ => h⟩
  rw [er, hz]; rfl
 ·rw [if_neg hz]
  have e : rowF (pmZ n (plF n (tmZ r (q.1.getD v 0)) (tmZ q (-r.1.getD v 0)))) = prm (pls (tms (rowF r) ((q.1.getD v 0 : Int) : Rat)) (tms (rowF q) ((-r.1.getD v 0 : Int) : Rat))) := by
   rw [← rowF_tm, ← rowF_tm, ← rowF_pl (n := n) (by simp [tmZ, hr]) (by simp [tmZ, hq]), prm_form, plF_len]
  rw [e]
  obtain ⟨c, hc, h1, h2⟩ := prm_spec (pls (tms (rowF r) ((q.1.getD v 0 : Int) : Rat)) (tms (rowF q) ((-r.1.getD v 0 : Int) : Rat)))
  have h3 : ∀ k, rv (pls (tms (rowF r) ((q.1.getD v 0 : Int) : Rat)) (tms (rowF q) ((-r.1.getD v 0 : Int) : Rat))) k = rv (rowF r) k * ((q.1.getD v 0 : Int) : Rat) + rv (rowF q) k * ((-r.1.getD v 0 : Int) : Rat) := by
   intro k
   rw [rv_pls _ _ (by rw [tms_len, tms_len, rowF_len, rowF_len]; omega), rv_tms, rv_tms]
  have hp : (0 : Rat) < ((q.1.getD v 0 : Int) : Rat) := Rat.intCast_pos.2 h0
  refine ⟨c * ((q.1.getD v 0 : Int) : Rat), c * ((-r.1.getD v 0 : Int) : Rat), Rat.mul_pos hc hp, fun k => ?_, ?_, fun _ hk => ?_⟩
  ·rw [h1, h3]; grind
  ·rw [h1, h3, er, eq, Rat.intCast_neg]; grind
  ·refine h2 ?_
   obtain ⟨k, hk⟩ := hk
   refine ⟨k, fun h => hk ?_⟩
   rw [h1, h]; grind
/-- The new row. -/
def piZ (n v : Nat) (r : Fm) : Fm := if (pmZ n r).1.getD v 0 < 0 then niZ (pmZ n r) else pmZ n r
theorem pi_new {n v : Nat} {r : Fm} (hr : r.1.length = n) (hv : v < n) (hz : ∀ j, j < v → r.1.getD j 0 = 0) (h1 : r.1.getD v 0 ≠ 0) : ldF (rowF r).1 = v ∧ newF n (rowF r) = rowF (piZ n v r) := by
 have hl : Ld (rv (rowF r)) v := by
  refine ⟨?_, fun k hk => ?_⟩
  ·rw [rowF_at r v (by omega)]; exact fun h => h1 (Rat.intCast_eq_zero_iff.1 h)
  ·rw [rowF_at r k (by omega), hz k hk]; rfl
 have e := ldF_eq (rowF r) v hl (by rw [rowF_len]; omega)
 refine ⟨e, ?_⟩
 have e2 : prm (rowF r) = rowF (pmZ n r) := by rw [prm_form, hr]
 have e3 : (rowF (pmZ n r)).1.getD v 0 = (((pmZ n r).1.getD v 0 : Int) : Rat) := getD_map (fun x : Int => (x : Rat)) _ v 0 0 (by rw [pmZ_len]; omega)
 unfold newF piZ
 rw [e, e2, e3]
 by_cases hn : (pmZ n r).1.getD v 0 < 0
 ·rw [if_pos hn, if_pos (Rat.intCast_neg_iff.2 hn), rowF_ni]
 ·rw [if_neg hn, if_neg (fun h => hn (Rat.intCast_neg_iff.1 h))]
/-- The facts of the new row. -/
theorem pi_spec {n v : Nat} {r : Fm} (hr : r.1.length = n) (hv : v < n) (hz : ∀ j, j < v → r.1.getD j 0 = 0) (h1 : r.1.getD v 0 ≠ 0) :
  (piZ n v r).1.length = n ∧ (∀ j, j < v → (piZ n v r).1.getD j 0 = 0) ∧ 0 < (piZ n v r).1.getD v 0 ∧ Pm (rv (rowF (piZ n v r))) ∧ ∃ c : Rat, c ≠ 0 ∧ ∀ k, rv (rowF (piZ n v r)) k = c * rv (rowF r) k := by
 obtain ⟨e, e2⟩ := pi_new hr hv hz h1
 obtain ⟨c, hc, h2, h3, h4, h5⟩ := newF_spec (n := n) (r := rowF r) (by rw [rowF_len]; exact hr) (by omega)
 rw [e2] at h2 h3 h4 h5
 rw [e] at h4
 rw [rowF_len] at h5
 refine ⟨h5, fun j hj => ?_, ?_, h3, c, hc, h2⟩
 ·have := h2 j
  rw [rowF_at _ j (by omega), rowF_at r j (by omega), hz j hj] at this
  refine Rat.intCast_eq_zero_iff.1 (this.trans ?_)
  show c * 0 = 0
  grind
 ·rw [rowF_at _ v (by omega)] at h4
  exact Rat.intCast_pos.1 h4
/-- A round of Solved. -/
def stZ (n v i : Nat) (s : List Fm × List Fm) : List Fm × List Fm :=
 ((s.1.take i ++ s.1.drop (i + 1)).map (clZ n v (piZ n v (s.1.getD i ([], 0)))), s.2.map (clZ n v (piZ n v (s.1.getD i ([], 0)))) ++ [piZ n v (s.1.getD i ([], 0))])
theorem fm_getD {l : List Fm} {i : Nat} (h : i < l.length) : l.getD i ([], 0) = l[i] := by
 rw [List.getD_eq_getElem?_getD, List.getElem?_eq_getElem h]; rfl
/-- What holds behind v rounds. -/
structure SoI (n v : Nat) (L : List Vc) (s : List Fm × List Fm) : Prop where
 len : ∀ r ∈ s.1, r.1.length = n
 zer : ∀ r ∈ s.1, ∀ j, j < v → r.1.getD j 0 = 0
 out : ∃ C : Nat → Option Fm, (∀ k, v ≤ k → C k = none) ∧ Inv n (fun k => (C k).map rowF) (s.2.map (fun r => rv (rowF r))) ∧ s.2 = (List.range n).filterMap C
 span : ∀ x, Sp ((s.1 ++ s.2).map fun r => rv (rowF r)) x ↔ Sp L x
theorem flat_C (n : Nat) (C : Nat → Option Fm) : flatF n (fun k => (C k).map rowF) = ((List.range n).filterMap C).map rowF := by
 unfold flatF; rw [List.map_filterMap]
theorem SoI.start {n : Nat} {l : List Fm} (h : ∀ r ∈ l, r.1.length = n) : SoI n 0 (l.map fun r => rv (rowF r)) (l, []) := by
 refine ⟨h, fun r _ j hj => absurd hj (by omega), ⟨fun _ => none, fun _ _ => rfl, Inv.start n, ?_⟩, fun x => by rw [List.append_nil]⟩
 exact (List.filterMap_eq_nil_iff.2 fun _ _ => rfl).symm
theorem fill_C {α : Type} (n v : Nat) (C : Nat → Option α) (f : α → α) (p : α) (hC : ∀ k, v ≤ k → C k = none) (hv : v < n) :
  (List.range n).filterMap (fun k => if k = v then some p else (C k).map f) = ((List.range n).filterMap C).map f ++ [p] := by
 obtain ⟨m, rfl⟩ : ∃ m, n = v + 1 + m := ⟨n - (v + 1), by omega⟩
 clear hv
 induction m with
 | zero =>
  rw [Nat.add_zero, List.range_succ, List.filterMap_append, List.filterMap_append]
  have e1 : (List.range v).filterMap (fun k => if k = v then some p else (C k).map f) = ((List.range v).filterMap C).map f := by
   rw [List.map_filterMap]
   have hg : ∀ ks : List Nat, (∀ k ∈ ks, k < v) → ks.filterMap (fun k => if k = v then some p else (C k).map f) = ks.filterMap fun k => (C k).map f := by
    intro ks
    induction ks with
    | nil => exact fun _ => rfl
    | cons k ks ih =>
     intro hk
     rw [List.filterMap_cons, List.filterMap_cons, if_neg (by have := hk k (by simp); omega), ih fun k hk' => hk k (by simp [hk'])]
   exact hg _ fun k hk => List.mem_range.1 hk
  have e2 : [v].filterMap C = [] := by simp [hC v (Nat.le_refl _)]
  have e3 : [v].filterMap (fun k => if k = v then some p else (C k).map f) = [p] := by simp
  rw [e1, e2, e3, List.append_nil]
 | succ m ih =>
  rw [← Nat.add_assoc, List.range_succ, List.filterMap_append, List.filterMap_append, ih]
  have e2 : [v + 1 + m].filterMap C = [] := by simp [hC (v + 1 + m) (by omega)]
  have e3 : [v + 1 + m].filterMap (fun k => if k = v then some p else (C k).map f) = [] := by
   simp [hC (v + 1 + m) (by omega)]; omega
  rw [e2, e3, List.append_nil, List.append_nil]
theorem st_rest {s : List Fm × List Fm} {i : Nat} {r : Fm} (h : r ∈ s.1.take i ++ s.1.drop (i + 1)) : r ∈ s.1 := by
 rcases List.mem_append.1 h with h | h
 ·exact List.mem_of_mem_take h
 ·exact List.mem_of_mem_drop h
theorem st_all {s : List Fm × List Fm} {i : Nat} {r : Fm} (hi : i < s.1.length) (h : r ∈ s.1) : r = s.1.getD i ([], 0) ∨ r ∈ s.1.take i ++ s.1.drop (i + 1) := by
 have e : s.1 = s.1.take i ++ s.1[i] :: s.1.drop (i + 1) := by
  rw [List.getElem_cons_drop]; exact (List.take_append_drop i s.1).symm
 rw [fm_getD hi]
 rw [e] at h
 rcases List.mem_append.1 h with h | h
 ·exact .inr (List.mem_append_left _ h)
 ·rcases List.mem_cons.1 h with h | h
  ·exact .inl h
  ·exact .inr (List.mem_append_right _ h)
theorem SoI.row {n v : Nat} {L : List Vc} {s : List Fm × List Fm} (h : SoI n v L s) {r : Fm} (hr : r ∈ s.2) : r.1.length = n := by
 obtain ⟨C, hC, hI, e⟩ := h.out
 rw [e] at hr
 obtain ⟨k, _, hk⟩ := List.mem_filterMap.1 hr
 have := (hI.row k (rowF r) (by rw [hk]; rfl)).2.1
 rwa [rowF_len] at this
theorem SoI.step {n v i : Nat} {L : List Vc} {s : List Fm × List Fm} (h : SoI n v L s) (hv : v < n) (hi : i < s.1.length) (h1 : (s.1.getD i ([], 0)).1.getD v 0 ≠ 0) : SoI n (v + 1) L (stZ n v i s) := by
 have hm : s.1.getD i ([], 0) ∈ s.1 := by rw [fm_getD hi]; exact List.getElem_mem hi
 have hl0 := h.len _ hm
 obtain ⟨p1, p2, p3, p4, c0, hc0, p5⟩ := pi_spec hl0 hv (h.zer _ hm) h1
 have hrow := fun r hr => h.row (r := r) hr
 obtain ⟨C, hC, hI, hs2⟩ := h.out
 unfold stZ
 generalize hp0 : s.1.getD i ([], 0) = p0 at *
 generalize piZ n v p0 = p at *
 have pv : ∀ j, j < v → rv (rowF p) j = 0 := fun j hj => by rw [rowF_at p j (by omega), p2 j hj]; rfl
 have pp : 0 < rv (rowF p) v := by rw [rowF_at p v (by omega)]; exact Rat.intCast_pos.2 p3
 have hmem : ∀ k r, C k = some r → r ∈ s.2 ∧ k < v := fun k r e => by
  have hk := (hI.row k (rowF r) (by rw [e]; rfl)).1
  refine ⟨by rw [hs2]; exact List.mem_filterMap.2 ⟨k, List.mem_range.2 hk, e⟩, ?_⟩
  rcases Nat.lt_or_ge k v with h | h
  ·exact h
  ·rw [hC k h] at e; exact absurd e (by simp)
 have hC' : ∀ k q, ((fun k => if k = v then some p else (C k).map (clZ n v p)) k).map rowF = some q → (k = v ∧ q = rowF p) ∨ (k < v ∧ ∃ r, C k = some r ∧ q = rowF (clZ n v p r)) := by
  intro k q e
  by_cases hk : k = v
  ·simp only [if_pos hk, Option.map_some, Option.some.injEq] at e
   exact .inl ⟨hk, e.symm⟩
  ·simp only [if_neg hk] at e
   cases hc : C k with
   | none => rw [hc] at e; exact absurd e (by simp)
   | some r =>
    rw [hc] at e
    simp only [Option.map_some, Option.some.injEq] at e
    exact .inr ⟨(hmem k r hc).2, r, rfl, e.symm⟩
 have hold : ∀ k r, C k = some r → ∃ a b : Rat, 0 < a ∧ (∀ j, rv (rowF (clZ n v p r)) j = a * rv (rowF r) j + b * rv (rowF p) j) ∧ rv (rowF (clZ n v p r)) v = 0 ∧ (Pm (rv (rowF r)) → (∃ j, rv (rowF (clZ n v p r)) j ≠ 0) → Pm (rv (rowF (clZ n v p r)))) := fun k r e => cl_spec p1 (hrow r (hmem k r e).1) hv p3
 have posne : ∀ x : Rat, 0 < x → x ≠ 0 := fun x hx h => by rw [h] at hx; exact absurd hx (by decide)
 refine ⟨fun r hr => ?_, fun r hr j hj => ?_, ⟨fun k => if k = v then some p else (C k).map (clZ n v p), fun k hk => ?_, ⟨fun k q e => ?_, fun k q k' q' e e' hne => ?_, fun x => ?_⟩, ?_⟩, fun x => ?_⟩
 ·obtain ⟨y, hy, rfl⟩ := List.mem_map.1 hr
  exact clZ_len (h.len y (st_rest hy))
 ·obtain ⟨y, hy, rfl⟩ := List.mem_map.1 hr
  have hly := h.len y (st_rest hy)
  obtain ⟨a, b, ha, e1, e2, _⟩ := cl_spec p1 hly hv p3
  have hlc := clZ_len (n := n) (v := v) (q := p) hly
  refine Rat.intCast_eq_zero_iff.1 ((rowF_at _ j (by omega)).symm.trans ?_)
  rcases Nat.lt_or_ge j v with hj' | hj'
  ·rw [e1, pv j hj', rowF_at y j (by omega), h.zer y (st_rest hy) j hj']
   show a * 0 + b * 0 = 0
   grind
  ·have : j = v := by omega
   rw [this]; exact e2
 ·show (if k = v then some p else (C k).map (clZ n v p)) = none
  rw [if_neg (by omega), hC k (by omega)]; rfl
 ·rcases hC' k q e with ⟨rfl, rfl⟩ | ⟨hk, r, hr, rfl⟩
  ·exact ⟨hv, by rw [rowF_len]; exact p1, ⟨posne _ pp, pv⟩, pp, p4⟩
  ·obtain ⟨i1, i2, i3, i4, i5⟩ := hI.row k (rowF r) (by rw [hr]; rfl)
   obtain ⟨a, b, ha, e1, e2, e3⟩ := hold k r hr
   have hlr := hrow r (hmem k r hr).1
   have hk0 : 0 < rv (rowF (clZ n v p r)) k := by rw [e1, pv k hk]; have := Rat.mul_pos ha i4; grind
   refine ⟨i1, by rw [rowF_len]; exact clZ_len hlr, ⟨posne _ hk0, fun j hj => ?_⟩, hk0, e3 i5 ⟨k, posne _ hk0⟩⟩
   rw [e1, pv j (by omega), i3.2 j hj]; grind
 ·rcases hC' k q e with ⟨rfl, rfl⟩ | ⟨hk, r, hr, rfl⟩
  ·rcases hC' k' q' e' with ⟨rfl, rfl⟩ | ⟨hk', r', hr', rfl⟩
   ·exact absurd rfl hne
   ·exact pv k' hk'
  ·obtain ⟨a, b, ha, e1, e2, e3⟩ := hold k r hr
   rcases hC' k' q' e' with ⟨rfl, rfl⟩ | ⟨hk', r', hr', rfl⟩
   ·exact e2
   ·rw [e1, pv k' hk', hI.alone k (rowF r) k' (rowF r') (by rw [hr]; rfl) (by rw [hr']; rfl) hne]; grind
 ·rw [flat_C, fill_C n v C _ p hC hv, ← hs2]
  simp [List.map_map, Function.comp_def]
 ·show s.2.map (clZ n v p) ++ [p] = _
  rw [fill_C n v C _ p hC hv, ← hs2]
 ·refine Iff.trans (sp_eq (fun a ha => ?_) (fun a ha => ?_) x) (h.span x)
  ·obtain ⟨y, hy, rfl⟩ := List.mem_map.1 ha
   have hin : ∀ r, r ∈ s.1 ++ s.2 → Sp ((s.1 ++ s.2).map fun r => rv (rowF r)) (rv (rowF r)) := fun r hr => Sp.mem (List.mem_map.2 ⟨r, hr, rfl⟩)
   have hpS : Sp ((s.1 ++ s.2).map fun r => rv (rowF r)) (rv (rowF p)) := by
    have e : rv (rowF p) = fun k => c0 * rv (rowF p0) k := funext p5
    rw [e]; exact (hin p0 (List.mem_append_left _ hm)).smul c0
   have hcl : ∀ r, r ∈ s.1 ++ s.2 → r.1.length = n → Sp ((s.1 ++ s.2).map fun r => rv (rowF r)) (rv (rowF (clZ n v p r))) := fun r hr hl => by
    obtain ⟨a, b, ha, e1, _⟩ := cl_spec (v := v) p1 hl hv p3
    have e : rv (rowF (clZ n v p r)) = fun k => a * rv (rowF r) k + b * rv (rowF p) k := funext e1
    rw [e]; exact (hin r hr).lin hpS a b
   rcases List.mem_append.1 hy with hy | hy
   ·obtain ⟨r, hr, rfl⟩ := List.mem_map.1 hy
    exact hcl r (List.mem_append_left _ (st_rest hr)) (h.len r (st_rest hr))
   ·rcases List.mem_append.1 hy with hy | hy
    ·obtain ⟨r, hr, rfl⟩ := List.mem_map.1 hy
     exact hcl r (List.mem_append_right _ hr) (hrow r hr)
    ·rw [List.mem_singleton] at hy; subst hy; exact hpS
  ·obtain ⟨y, hy, rfl⟩ := List.mem_map.1 ha
   generalize hT : (((s.1.take i ++ s.1.drop (i + 1)).map (clZ n v p) ++ (s.2.map (clZ n v p) ++ [p])).map fun r => rv (rowF r)) = T
   have hin : ∀ r, r ∈ (s.1.take i ++ s.1.drop (i + 1)).map (clZ n v p) ++ (s.2.map (clZ n v p) ++ [p]) → Sp T (rv (rowF r)) := fun r hr => hT ▸ Sp.mem (List.mem_map.2 ⟨r, hr, rfl⟩)
   have hpS := hin p (by simp)
   have hcl : ∀ r, r.1.length = n → Sp T (rv (rowF (clZ n v p r))) → Sp T (rv (rowF r)) := fun r hl hr => by
    obtain ⟨a, b, ha, e1, _⟩ := cl_spec (v := v) p1 hl hv p3
    have e : rv (rowF r) = fun k => (1 / a) * rv (rowF (clZ n v p r)) k + (-(b / a)) * rv (rowF p) k := by
     funext k; rw [e1]; have := posne a ha; grind
    rw [e]; exact hr.lin hpS _ _
   rcases List.mem_append.1 hy with hy | hy
   ·rcases st_all hi hy with e | hy2
    ·rw [hp0] at e
     subst e
     have e : rv (rowF y) = fun k => (1 / c0) * rv (rowF p) k := by
      funext k; rw [p5]; grind
     rw [e]; exact hpS.smul _
    ·exact hcl y (h.len y hy) (hin _ (List.mem_append_left _ (List.mem_map.2 ⟨y, hy2, rfl⟩)))
   ·exact hcl y (hrow y hy) (hin _ (List.mem_append_right _ (List.mem_append_left _ (List.mem_map.2 ⟨y, hy, rfl⟩))))
theorem SoI.same {n v : Nat} {L : List Vc} {s : List Fm × List Fm} (h : SoI n v L s) (h0 : ∀ r ∈ s.1, r.1.getD v 0 = 0) : SoI n (v + 1) L s := by
 obtain ⟨C, hC, hI, e⟩ := h.out
 refine ⟨h.len, fun r hr j hj => ?_, ⟨C, fun k hk => hC k (by omega), hI, e⟩, h.span⟩
 rcases Nat.lt_or_ge j v with hj' | hj'
 ·exact h.zer r hr j hj'
 ·have : j = v := by omega
  rw [this]; exact h0 r hr
/-- The sizes behind v rounds. -/
def SoS (K : Nat) (s : List Fm × List Fm) : Prop := ∀ r ∈ s.1 ++ s.2, (∀ j, Sz K (r.1.getD j 0)) ∧ Sz K r.2
theorem pm_sz {n K : Nat} {r : Fm} (h : (∀ j, Sz K (r.1.getD j 0)) ∧ Sz K r.2) : (∀ j, Sz K ((pmZ n r).1.getD j 0)) ∧ Sz K (pmZ n r).2 :=
 ⟨fun j => map_sz (fun z hz => pz_sz hz) h.1 j, pz_sz h.2⟩
theorem pi_sz {n v K : Nat} {r : Fm} (h : (∀ j, Sz K (r.1.getD j 0)) ∧ Sz K r.2) : (∀ j, Sz K ((piZ n v r).1.getD j 0)) ∧ Sz K (piZ n v r).2 := by
 have h1 := pm_sz (n := n) h
 unfold piZ
 split
 ·exact ⟨fun j => map_sz (f := fun x => -x) (fun z hz => hz.neg) h1.1 j, h1.2.neg⟩
 ·exact h1
theorem cl_sz {n v K : Nat} {q r : Fm} (hq : (∀ j, Sz K (q.1.getD j 0)) ∧ Sz K q.2) (h : (∀ j, Sz K (r.1.getD j 0)) ∧ Sz K r.2) : (∀ j, Sz (K + K + 1) ((clZ n v q r).1.getD j 0)) ∧ Sz (K + K + 1) (clZ n v q r).2 := by
 unfold clZ
 split
 ·exact ⟨fun j => (h.1 j).mono (by omega), h.2.mono (by omega)⟩
 ·exact pm_sz ⟨fun j => plZ_sz n (fun j => map_sz (f := (· * q.1.getD v 0)) (fun z hz => hz.mul (hq.1 v)) h.1 j) (fun j => map_sz (f := (· * (-r.1.getD v 0))) (fun z hz => hz.mul (h.1 v).neg) hq.1 j) j, (h.2.mul (hq.1 v)).add (hq.2.mul (h.1 v).neg)⟩
theorem SoS.step {n v i K : Nat} {s : List Fm × List Fm} (h : SoS K s) (hi : i < s.1.length) : SoS (K + K + 1) (stZ n v i s) := by
 have hm : s.1.getD i ([], 0) ∈ s.1 := by rw [fm_getD hi]; exact List.getElem_mem hi
 have hp := pi_sz (n := n) (v := v) (h _ (List.mem_append_left _ hm))
 intro r hr
 rcases List.mem_append.1 hr with hr | hr
 ·obtain ⟨y, hy, rfl⟩ := List.mem_map.1 hr
  exact cl_sz hp (h y (List.mem_append_left _ (st_rest hy)))
 ·rcases List.mem_append.1 hr with hr | hr
  ·obtain ⟨y, hy, rfl⟩ := List.mem_map.1 hr
   exact cl_sz hp (h y (List.mem_append_right _ hy))
  ·rw [List.mem_singleton] at hr; subst hr
   exact ⟨fun j => (hp.1 j).mono (by omega), hp.2.mono (by omega)⟩
end Go.Proofs.YtloplmmnmehkmaaGreat
