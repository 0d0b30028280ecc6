/- Slices of numbers. lin: Forms. lin: all over forms, forms. num: Outs. lin: Echelon, Solve. lin: Solve. lin: all, ValidPoint; num: Rats. exact: Row.Value. lin: Value, Primitive. -/
import Derived.Test.YtjmbpeniibdnoaaNum1
import Derived.Test.YtjmbpeniibdnoaaMemA
import Derived.Test.YtjmbpeniibdnoaaRowB
set_option linter.unusedVariables false
set_option linter.unusedSimpArgs false
namespace Go.Proofs.Ytjmbpeniibdnoaa
open Go.RowKit

def I64 (t l : Int) : Prop := (-9223372036854775808 ≤ t ∧ t ≤ 9223372036854775807) ∧ (-9223372036854775808 ≤ l ∧ l ≤ 9223372036854775807)
theorem num_sz {t l : Int} (h : OkN t l) : SzR 64 (Rat.divInt t l) ∧ (Rat.divInt t l).num = t ∧ ((Rat.divInt t l).den : Int) = l := by
  obtain ⟨h1, h2, h3, h4, h5⟩ := h
  have e1 := divInt_num (x := t) (y := l) (by omega)
  have e2 := divInt_den (x := t) (y := l) (by omega)
  rw [h5, Int.sign_eq_one_of_pos (by omega)] at e1 e2
  simp at e1 e2
  refine ⟨⟨?_, ?_⟩, e1, e2⟩
  · rw [e1]; exact Sz.small (by omega) (by omega)
  · rw [e2]; exact Sz.small (by omega) (by omega)
/-- A slice of numbers. -/
def RdN (w : World) (A : Option Addr) (n : Nat) (xs : List (Int × Int)) : Prop :=
  xs.length = n ∧ n ≤ 9223372036854775807 ∧ (0 < n → ∃ g off, A = some ⟨g, off, none⟩ ∧ g < w.heap.size ∧ ∀ j, j < n → w.cell? ⟨g, off + j * 2, none⟩ = some (.int .i64 (xs.getD j (0, 0)).1) ∧ w.cell? ⟨g, off + j * 2 + 1, none⟩ = some (.int .i64 (xs.getD j (0, 0)).2))
theorem RdN.below {w w' : World} {A : Option Addr} {n : Nat} {xs : List (Int × Int)} (h : RdN w A n xs) (hb : Below w.heap.size w w') : RdN w' A n xs := by
  refine ⟨h.1, h.2.1, fun hn => ?_⟩
  obtain ⟨g, off, e, hg, hc⟩ := h.2.2 hn
  exact ⟨g, off, e, Nat.lt_of_lt_of_le hg hb.size, fun j hj => ⟨by rw [(cells_below hb).1 g _ hg]; exact (hc j hj).1, by rw [(cells_below hb).1 g _ hg]; exact (hc j hj).2⟩⟩
theorem RdN.bl {w w0 w' : World} {A : Option Addr} {n : Nat} {xs : List (Int × Int)} (h : RdN w A n xs) (hb : Below w.heap.size w w') : RdN w' A n xs := h.below hb
theorem RdN.two {W : World} {g : Nat} {t l t' l' : Int} {fr : Nat × Nat} (h : W.heap[g]? = some (.cells #[.int .i64 t, .int .i64 l, .int .i64 t', .int .i64 l'] 36 fr)) : RdN W (some ⟨g, 0, none⟩) 2 [(t, l), (t', l')] := by
  refine ⟨rfl, by omega, fun _ => ⟨g, 0, rfl, blk_lt h, fun j hj => ?_⟩⟩
  match j, hj with
  | 0, _ => exact ⟨by simp [World.cell?, h], by simp [World.cell?, h]⟩
  | 1, _ => exact ⟨by simp [World.cell?, h], by simp [World.cell?, h]⟩
def I64s (xs : List (Int × Int)) : Prop := ∀ x ∈ xs, I64 x.1 x.2
theorem I64s.at {xs : List (Int × Int)} (h : I64s xs) (k : Nat) (hk : k < xs.length) : I64 (xs.getD k (0, 0)).1 (xs.getD k (0, 0)).2 := by
  have : xs.getD k (0, 0) = xs[k] := by rw [List.getD_eq_getElem?_getD, List.getElem?_eq_getElem hk]; rfl
  rw [this]
  exact h _ (List.getElem_mem hk)
def OkNs (xs : List (Int × Int)) : Prop := ∀ x ∈ xs, OkN x.1 x.2
instance (xs : List (Int × Int)) : Decidable (OkNs xs) := by unfold OkNs; infer_instance
theorem OkNs.at {xs : List (Int × Int)} (h : OkNs xs) (k : Nat) (hk : k < xs.length) : OkN (xs.getD k (0, 0)).1 (xs.getD k (0, 0)).2 := by
  have : xs.getD k (0, 0) = xs[k] := by rw [List.getD_eq_getElem?_getD, List.getElem?_eq_getElem hk]; rfl
  rw [this]
  exact h _ (List.getElem_mem hk)
theorem OkNs.of {xs : List (Int × Int)} (h : ∀ k, k < xs.length → OkN (xs.getD k (0, 0)).1 (xs.getD k (0, 0)).2) : OkNs xs := by
  intro x hx
  obtain ⟨k, hk, rfl⟩ := List.getElem_of_mem hx
  have := h k hk
  rw [List.getD_eq_getElem?_getD, List.getElem?_eq_getElem hk] at this
  exact this
theorem OkNs.two (t l t' l' : Int) : OkNs [(t, l), (t', l')] ↔ OkN t l ∧ OkN t' l' := by
  unfold OkNs
  simp

theorem blk_farN {w : World} {g k : Nat} {o : Obj} (h : w.heap[k]? = some o) (hk : k ≠ g) (x y : Value) : ((w.setCell ⟨g, 0, none⟩ x).setCell ⟨g, 1, none⟩ y).heap[k]? = some o := blk_far (blk_far h hk) hk


end Go.Proofs.Ytjmbpeniibdnoaa

namespace Go.Proofs.Ytjmbpeniibdnoaa
open Go.RowKit

def fsOk (R : List Rw) : Prop := ∀ r ∈ R, outOk r
instance (R : List Rw) : Decidable (fsOk R) := by unfold fsOk; infer_instance
def fsE (R : List Rw) : Int := if fsOk R then 0 else 3
def fsF (R : List Rw) : List Fm := if fsOk R then R.map outW else []
set_option maxHeartbeats 40000000
set_option maxRecDepth 100000
theorem lforms_calls (A : Option Addr) (m c : Nat) (R : List Rw) (w : World) (h : RdW w A m R) (hm : m ≤ 500) :
    Calls Try.prog 41 #[.slice A m c] w fun e w' => (∃ A' n' c', e = .returned (.tuple #[.slice A' n' c', .int .i64 (fsE R)]) ∧ FoB w.heap.size w' A' n' c' (fsF R)) ∧ Below w.heap.size w w' := by
  have L := Lib.hid h.1
  have NO : ¬ fsOk R → fsE R = 3 ∧ fsF R = [] := fun h => ⟨if_neg h, if_neg h⟩
  have YES : fsOk R → fsE R = 0 ∧ fsF R = R.map outW := fun h => ⟨if_pos h, if_pos h⟩
  generalize fsE R = e9 at *
  generalize fsF R = F9 at *
  go_enter Try.func41, Try.ntmps41
  have O0 := Kind.Own.nil (K := KFb w.heap.size) w w.heap.size
  have B0 := Below.refl w.heap.size w
  go_wp2_with fail
  go_loopw [4, 11] (fun v i wr => ∃ kk : Nat, kk ≤ m ∧ i = .int .i64 kk ∧ (∀ j, j < kk → outOk (R.getD j ([], 0))) ∧ (KFb w.heap.size).Own wr w.heap.size v kk ((R.take kk).map outW) ∧ Below w.heap.size w wr) (fun _ i _ => m - (intOf i).toNat)
  case atStart => exact ⟨0, Nat.zero_le _, rfl, fun j hj => absurd hj (by omega), O0, B0⟩
  case round =>
    clear O0 B0
    obtain ⟨kk, hkk, rfl, hall, OW, B0⟩ := hrel
    have HALL := Lib.hid hall
    clear hall
    by_cases hlt : kk < m
    · obtain ⟨g, off, rfl, hg, hc⟩ := (h.below B0).2.2 (by omega)
      obtain ⟨A1, n1, c1', x1, b1, ⟨p1, p2, p3, p4, p5, p6⟩, c3⟩ := hc kk hlt
      have E := Lib.hid (map_take_succ outW R ([], 0) kk (by rw [L.out]; exact hlt))
      have HMEM := Lib.hid (mem_getD (d := (([], 0) : Rw)) (by rw [L.out]; exact hlt : kk < R.length))
      clear hc h
      generalize hr1 : R.getD kk ([], 0) = r1 at *
      have HR1 := Lib.hid hr1
      clear hr1
      have c4 := c3.below (bl_alloc (Below.refl _ _) (.cells #[.slice A1 n1 c1', .int .i64 x1.v, .slice x1.A x1.n x1.c, .int .i64 x1.v', .slice x1.A' x1.n' x1.c', .bool b1] 65))
      replace OW := OW.below (KFb.ok _) (bl_alloc (Below.refl _ _) (.cells #[.slice A1 n1 c1', .int .i64 x1.v, .slice x1.A x1.n x1.c, .int .i64 x1.v', .slice x1.A' x1.n' x1.c', .bool b1] 65))
      replace B0 := bl_alloc B0 (.cells #[.slice A1 n1 c1', .int .i64 x1.v, .slice x1.A x1.n x1.c, .int .i64 x1.v', .slice x1.A' x1.n' x1.c', .bool b1] 65)
      go_wp2_with fail
      refine (lout_calls A1 n1 c1' x1 b1 r1 _ c4).mono ?_
      rintro e w1 ⟨⟨v2, he, A2, n2, c2', rfl, t2, u2⟩, hB1⟩
      replace u2 := u2.mono B0.size
      replace OW := OW.below (KFb.ok _) hB1
      replace B0 := bl_then B0 hB1
      clear hB1 p1 p2 p3 p4 p5 p6 c3 c4 hg
      by_cases hok : outOk r1
      · rw [decide_eq_true hok] at he
        subst he
        rw [show outF r1 = outW r1 from if_pos hok] at t2 ⊢
        have HOK := Lib.hid hok
        clear hok
        generalize outW r1 = f2 at *
        replace OW := OW.below (KFb.ok _) (bl_alloc (Below.refl _ _) (.cells #[.slice A2 n2 c2', .int .i64 f2.2] 30))
        replace B0 := bl_alloc B0 (.cells #[.slice A2 n2 c2', .int .i64 f2.2] 30)
        replace OW := OW.below (KFb.ok _) (bl_alloc (Below.refl _ _) (.cells #[.slice A2 n2 c2', .int .i64 f2.2] 30))
        have B1 := bl_alloc B0 (.cells #[.slice A2 n2 c2', .int .i64 f2.2] 30)
        replace u2 := u2.below (bl_alloc (bl_alloc (Below.refl _ _) (.cells #[.slice A2 n2 c2', .int .i64 f2.2] 30)) (.cells #[.slice A2 n2 c2', .int .i64 f2.2] 30))
        replace t2 := t2.below (bl_alloc (bl_alloc (Below.refl _ _) (.cells #[.slice A2 n2 c2', .int .i64 f2.2] 30)) (.cells #[.slice A2 n2 c2', .int .i64 f2.2] 30))
        obtain ⟨v', W', hrun, O2, hgr⟩ := appg1 (c := 1) (g := w1.heap.size + 1) (KFb.ok _) 22 _ 32 info_form Try.underlying22 rfl (by omega) OW ⟨A2, n2, c2', f2.2⟩ f2 _ (blk_at _ (by simp)) rfl ⟨t2, u2, rfl⟩ (by omega) B1.size
        rw [← E.out] at O2
        have HR := Lib.hid hrun
        have HO := Lib.hid O2
        have hOB := OW.ge
        have V2 : Hid (Below w.heap.size w W') := Lib.hid (below_of_grown B1 hgr B1.size hOB)
        clear hrun O2 hgr hOB OW t2 u2 B1
        go_wp2_with (at_builtin; refine wpList_ap rfl (.tmp 22) (.tmp 24) 22 (by rfl) _ _ (by rfl) (by rfl) _ (by rfl) _ _ HR.out ?_)
        go_roundw
        case rel =>
          refine ⟨kk + 1, hlt, by go_num, ?_, HO.out, V2.out⟩
          intro j hj
          rcases Nat.lt_or_ge j kk with h1 | h1
          · exact HALL.out j h1
          · have : j = kk := by omega
            subst this
            rw [HR1.out]
            exact HOK.out
        case measure => simp [intOf]; omega
      · rw [decide_eq_false hok] at he
        subst he
        rw [show outF r1 = ([], 0) from if_neg hok] at t2 ⊢
        obtain ⟨rfl, rfl⟩ := NO fun hh => hok (hh _ HMEM.out)
        have B1 := bl_alloc B0 (.cells #[.slice A2 n2 c2', .int .i64 0] 30)
        go_wp2
        go_ret2
        exact ⟨⟨none, 0, 0, rfl, FoB.nil _ _⟩, B1⟩
    · have hkn : kk = m := by omega
      subst hkn
      have hok : fsOk R := all_of_getD (p := outOk) fun j hj => HALL.out j (by rw [L.out] at hj; omega)
      obtain ⟨rfl, rfl⟩ := YES hok
      obtain ⟨A', c', rfl, hrd⟩ := KFb.rdF OW (by omega)
      rw [List.take_of_length_le (by rw [L.out]; exact Nat.le_refl _)] at OW
      have HOW := Lib.hid OW
      rw [List.take_of_length_le (by rw [L.out]; exact Nat.le_refl _)] at hrd
      have HRD := Lib.hid hrd
      clear OW hrd YES NO
      go_wp2
      go_ret2
      exact ⟨⟨A', _, c', rfl, HRD.out, HOW.out⟩, B0⟩
end Go.Proofs.Ytjmbpeniibdnoaa

namespace Go.Proofs.Ytjmbpeniibdnoaa
open Go.RowKit

set_option maxHeartbeats 40000000
set_option maxRecDepth 100000
theorem formlit_calls (n : Int) (gn : Nat) (A : Option Addr) (m c : Nat) (f : Fm) (w : World) (h : RdC w A m f.1) (hb : w.heap[gn]? = some (.cells #[.int .i64 n] 3 (0, 0))) :
    Calls Try.prog 58 #[.agg #[.slice A m c, .int .i64 f.2], .pointer (some ⟨gn, 0, none⟩)] w fun e w' => e = .returned (.bool (decide (OkF n f))) ∧ Below w.heap.size w w' := by
  go_enter Try.func58, Try.ntmps58
  have B0 := bl_alloc (Below.refl w.heap.size w) (.cells #[.slice A m c, .int .i64 f.2] 30)
  have b1 := (blk_cell (blk_below hb B0) 0).1
  go_wp2_with fail
  refine (validform_calls n A m c f _ (h.below B0)).mono ?_
  rintro e w1 ⟨rfl, hB1⟩
  replace B0 := bl_then B0 hB1
  go_wp2
  go_ret
  exact ⟨rfl, B0⟩
def okAll (n : Int) (F : List Fm) : Prop := ∀ f ∈ F, OkF n f
instance (n : Int) (F : List Fm) : Decidable (okAll n F) := by unfold okAll; infer_instance
theorem allform_calls (n : Int) (gn : Nat) (A : Option Addr) (m c : Nat) (F : List Fm) (w : World) (h : RdF w A m F) (hb : w.heap[gn]? = some (.cells #[.int .i64 n] 3 (0, 0))) :
    Calls Try.prog 57 #[.slice A m c, .func (.func 58) #[] #[.pointer (some ⟨gn, 0, none⟩)]] w fun e w' => e = .returned (.bool (decide (okAll n F))) ∧ Below w.heap.size w w' := by
  have L := Lib.hid h.1
  have hn := h.2.1
  generalize hB : decide (okAll n F) = B
  have HB := Lib.hid hB
  clear hB
  go_enter Try.func57, Try.ntmps57
  go_wp2_with fail
  go_loopw [9] (fun i wr => ∃ k : Nat, k ≤ m ∧ i = .int .i64 k ∧ (∀ j, j < k → OkF n (F.getD j ([], 0))) ∧ Below w.heap.size w wr) (fun i _ => m - (intOf i).toNat)
  case atStart => exact ⟨0, Nat.zero_le _, rfl, fun j hj => absurd hj (by omega), Below.refl _ _⟩
  case round =>
    obtain ⟨k, hk, rfl, hall, hBw⟩ := hrel
    have HALL := Lib.hid hall
    clear hall
    by_cases hlt : k < m
    · obtain ⟨g, off, rfl, hg, hc⟩ := (h.below hBw).2.2 (by omega)
      obtain ⟨A', n', c', c1, c2, c3⟩ := hc k hlt
      clear hc
      generalize hx1 : F.getD k ([], 0) = f1 at *
      have HX1 := Lib.hid hx1
      clear hx1
      have B0 := bl_alloc hBw (.cells #[.slice A' n' c', .int .i64 f1.2] 30)
      replace c3 := c3.below (bl_alloc (Below.refl _ _) (.cells #[.slice A' n' c', .int .i64 f1.2] 30))
      have b1 := blk_below hb B0
      go_wp2_with fail
      refine (formlit_calls n gn A' n' c' f1 _ c3 b1).mono ?_
      rintro e w1 ⟨he, hB1⟩
      replace B0 := bl_then B0 hB1
      clear hB1 c1 c2 c3 b1 hBw
      by_cases hok : OkF n f1
      · rw [decide_eq_true hok] at he
        subst he
        replace hok := Lib.hid hok
        go_wp2
        go_roundw
        case rel =>
          refine ⟨k + 1, hlt, by go_num, ?_, B0⟩
          intro j hj
          rcases Nat.lt_or_ge j k with h1 | h1
          · exact HALL.out j h1
          · have : j = k := by omega
            subst this
            rw [HX1.out]
            exact hok.out
        case measure => simp [intOf]; omega
      · rw [decide_eq_false hok] at he
        subst he
        have hf : B = false := by
          rw [← HB.out, decide_eq_false]
          intro hh
          have := hh _ (mem_getD (d := ([], 0)) (by rw [L.out]; exact hlt) : F.getD k ([], 0) ∈ F)
          rw [HX1.out] at this
          exact hok this
        subst hf
        go_wp2
        go_ret
        exact ⟨rfl, B0⟩
    · have hf : B = true := by
        rw [← HB.out, decide_eq_true]
        exact all_of_getD fun j hj => HALL.out j (by rw [L.out] at hj; omega)
      subst hf
      go_wp2
      go_ret
      exact ⟨rfl, hBw⟩
theorem forms_calls (n : Int) (A : Option Addr) (m c : Nat) (F : List Fm) (w : World) (h : RdF w A m F) :
    Calls Try.prog 29 #[.int .i64 n, .slice A m c] w fun e w' => e = .returned (.bool (decide (OkFs n F))) ∧ Below w.heap.size w w' := by
  have L := Lib.hid h.1
  have hmf : ∀ (fn : Fn) (first cap : Array Value) (w : World), (Instr.makeFunc fn first cap).run Try.prog w = .ok (.func fn first cap) w := fun _ _ _ _ => rfl
  generalize hB : decide (OkFs n F) = B
  have HB := Lib.hid hB
  clear hB
  have NO : ¬ OkFs n F → B = false := fun h => by rw [← HB.out, decide_eq_false h]
  go_enter Try.func29, Try.ntmps29
  have B0 := bl_alloc (Below.refl w.heap.size w) (.cells #[.int .i64 n] 3)
  have a1 : (w.alloc (.cells #[.int .i64 n] 3)).heap[w.heap.size]? = some (.cells #[.int .i64 n] 3 (0, 0)) := blk_at _ rfl
  go_upto_region 1 with (fail)
  generalize w.alloc (.cells #[.int .i64 n] 3) = W0 at *
  have c1 := (blk_cell a1 0).1
  go_wp2_with fail
  refine (dim_calls n _).mono ?_
  rintro e w1 ⟨he, hB1⟩
  replace a1 := blk_below a1 hB1
  replace B0 := bl_then B0 hB1
  clear hB1 c1
  have c1 := (blk_cell a1 0).1
  by_cases hd : dimO n
  · rw [decide_eq_true hd] at he
    subst he
    by_cases hl : (m : Int) ≤ 120
    · have hl' : decide ((m : Int) ≤ 120) = true := decide_eq_true hl
      go_wp2_with fail
      refine (allform_calls n w.heap.size A m c F _ (h.below B0) a1).mono ?_
      rintro e w2 ⟨he, hB1⟩
      replace B0 := bl_then B0 hB1
      clear hB1 c1
      have : decide (okAll n F) = B := by
        rw [← HB.out]
        apply decide_eq_decide.2
        exact ⟨fun hm => ⟨hd, by rw [L.out]; omega, hm⟩, fun hm => hm.2.2⟩
      rw [this] at he
      subst he
      go_wp2
      go_ret
      exact ⟨rfl, B0⟩
    · have hf := NO fun hh => hl (by have := hh.2.1; rw [L.out] at this; omega)
      subst hf
      have hl' : decide ((m : Int) ≤ 120) = false := decide_eq_false hl
      go_wp2
      go_ret
      exact ⟨rfl, B0⟩
  · rw [decide_eq_false hd] at he
    subst he
    have hf := NO fun hh => hd hh.1
    subst hf
    go_wp2
    go_ret
    exact ⟨rfl, B0⟩
end Go.Proofs.Ytjmbpeniibdnoaa

namespace Go.Proofs.Ytjmbpeniibdnoaa
open Go.RowKit

/-- Numbers. -/
def KN : Kind (Int × Int) (Int × Int) := ⟨fun y => [.int .i64 y.1, .int .i64 y.2], 2, 36, fun w y x => y = x, (0, 0), (0, 0)⟩
theorem KN.ok : KN.Ok := ⟨fun _ => rfl, by decide, fun y u hu => by simp [KN] at hu; rcases hu with rfl | rfl <;> rfl, fun W W' y r h k => h, fun W W' y r h k => h⟩
theorem info_num : (Try.prog.info? KN.E).map (fun i => (i.zero, i.size, i.bytes)) = some (some (.agg #[.int .i64 0, .int .i64 0]), KN.sz, 16) := by kernel_rfl
theorem KN.rdN {w : World} {base n : Nat} {v : Value} {X : List (Int × Int)} (h : KN.Own w base v n X) (hn : n ≤ 1000000) : ∃ A c, v = .slice A n c ∧ RdN w A n X := by
  obtain ⟨A, c, rfl, h1, h2, _, h3⟩ := h.rd KN.ok
  refine ⟨A, c, rfl, h1, by omega, fun hp => ?_⟩
  obtain ⟨g, cs, rfl, hg, hc⟩ := h3 hp
  refine ⟨g, 0, rfl, blk_lt hg, fun j hj => ?_⟩
  obtain ⟨y, hy, hi⟩ := hc j hj
  have k0 := hy 0 (by decide)
  have k1 := hy 1 (by decide)
  have hi' : y = X.getD j (0, 0) := hi
  subst hi'
  rw [Nat.zero_add]
  exact ⟨k0, k1⟩
def outP (q : Rat) : Int × Int := (q.num, (q.den : Int))
def osOk (X : List Rat) : Prop := ∀ q ∈ X, Fits q
instance (X : List Rat) : Decidable (osOk X) := by unfold osOk; infer_instance
def osE (X : List Rat) : Int := if osOk X then 0 else 3
def osF (X : List Rat) : List (Int × Int) := if osOk X then X.map outP else []
set_option maxHeartbeats 40000000
set_option maxRecDepth 100000
theorem RdN.nil (w : World) (A : Option Addr) : RdN w A 0 [] := ⟨rfl, by omega, fun h => absurd h (by omega)⟩
/-- Numbers as a result: read, and of the call's own. -/
def NuB (b : Nat) (w : World) (A : Option Addr) (n c : Nat) (X : List (Int × Int)) : Prop := RdN w A n X ∧ KN.Own w b (.slice A n c) n X
theorem NuB.below {b : Nat} {w w' : World} {A : Option Addr} {n c : Nat} {X : List (Int × Int)} (h : NuB b w A n c X) (hb : Below w.heap.size w w') : NuB b w' A n c X := ⟨h.1.below hb, h.2.below KN.ok hb⟩
theorem NuB.mono {b b' : Nat} {w : World} {A : Option Addr} {n c : Nat} {X : List (Int × Int)} (h : NuB b w A n c X) (hb : b' ≤ b) : NuB b' w A n c X := ⟨h.1, h.2.base3 hb⟩
theorem NuB.nil (b : Nat) (w : World) : NuB b w none 0 0 [] := ⟨RdN.nil _ _, Kind.Own.nil w b⟩
theorem outs_calls (A : Option Addr) (m c : Nat) (R : List Rat) (w : World) (h : RdQ w A m R) (hm : m ≤ 500) :
    Calls Try.prog 45 #[.slice A m c] w fun e w' => (∃ A' n' c', e = .returned (.tuple #[.slice A' n' c', .int .i64 (osE R)]) ∧ NuB w.heap.size w' A' n' c' (osF R)) ∧ Below w.heap.size w w' := by
  have L := Lib.hid h.1
  have NO : ¬ osOk R → osE R = 3 ∧ osF R = [] := fun h => ⟨if_neg h, if_neg h⟩
  have YES : osOk R → osE R = 0 ∧ osF R = R.map outP := fun h => ⟨if_pos h, if_pos h⟩
  generalize osE R = e9 at *
  generalize osF R = F9 at *
  go_enter Try.func45, Try.ntmps45
  have O0 := Kind.Own.nil (K := KN) w w.heap.size
  have B0 := Below.refl w.heap.size w
  go_wp2_with fail
  go_loopw [4, 11] (fun v i wr => ∃ kk : Nat, kk ≤ m ∧ i = .int .i64 kk ∧ (∀ j, j < kk → Fits (R.getD j 0)) ∧ KN.Own wr w.heap.size v kk ((R.take kk).map outP) ∧ Below w.heap.size w wr) (fun _ i _ => m - (intOf i).toNat)
  case atStart => exact ⟨0, Nat.zero_le _, rfl, fun j hj => absurd hj (by omega), O0, B0⟩
  case round =>
    clear O0 B0
    obtain ⟨kk, hkk, rfl, hall, OW, B0⟩ := hrel
    have HALL := Lib.hid hall
    clear hall
    by_cases hlt : kk < m
    · obtain ⟨g, off, rfl, hg, hc⟩ := (h.below B0).2.2.1 (by omega)
      obtain ⟨x1, ⟨p1, p2, p3, p4⟩, c3⟩ := hc kk hlt
      have E := Lib.hid (map_take_succ outP R 0 kk (by rw [L.out]; exact hlt))
      have HMEM := Lib.hid (mem_getD (d := (0 : Rat)) (by rw [L.out]; exact hlt : kk < R.length))
      clear hc h
      generalize hr1 : R.getD kk 0 = r1 at *
      have HR1 := Lib.hid hr1
      clear hr1
      have c4 := c3.below (bl_alloc (Below.refl _ _) (.cells #[.int .i64 x1.v, .slice x1.A x1.n x1.c, .int .i64 x1.v', .slice x1.A' x1.n' x1.c'] 63))
      replace OW := OW.below KN.ok (bl_alloc (Below.refl _ _) (.cells #[.int .i64 x1.v, .slice x1.A x1.n x1.c, .int .i64 x1.v', .slice x1.A' x1.n' x1.c'] 63))
      replace B0 := bl_alloc B0 (.cells #[.int .i64 x1.v, .slice x1.A x1.n x1.c, .int .i64 x1.v', .slice x1.A' x1.n' x1.c'] 63)
      go_wp2_with fail
      refine (out_calls x1.v x1.A x1.n x1.c x1.v' x1.A' x1.n' x1.c' r1 _ c4).mono ?_
      rintro e w1 ⟨he, hB1⟩
      unfold NumR at he
      replace OW := OW.below KN.ok hB1
      replace B0 := bl_then B0 hB1
      clear hB1 p1 p2 p3 p4 c3 c4 hg
      by_cases hok : Fits r1
      · rw [show outT r1 = (outP r1).1 from if_pos hok, show outL r1 = (outP r1).2 from if_pos hok, show outE r1 = 0 from if_pos hok] at he
        subst he
        have HOK := Lib.hid hok
        clear hok
        generalize outP r1 = f2 at *
        replace OW := OW.below KN.ok (bl_alloc (Below.refl _ _) (.cells #[.int .i64 f2.1, .int .i64 f2.2] 36))
        replace B0 := bl_alloc B0 (.cells #[.int .i64 f2.1, .int .i64 f2.2] 36)
        replace OW := OW.below KN.ok (bl_alloc (Below.refl _ _) (.cells #[.int .i64 f2.1, .int .i64 f2.2] 36))
        have B1 := bl_alloc B0 (.cells #[.int .i64 f2.1, .int .i64 f2.2] 36)
        obtain ⟨v', W', hrun, O2, hgr⟩ := appg1 (c := 1) (g := w1.heap.size + 1) KN.ok 23 _ 16 info_num Try.underlying23 rfl (by omega) OW f2 f2 _ (blk_at _ (by simp)) rfl rfl (by omega) B1.size
        rw [← E.out] at O2
        have HR := Lib.hid hrun
        have HO := Lib.hid O2
        have hOB := OW.ge
        have V2 : Hid (Below w.heap.size w W') := Lib.hid (below_of_grown B1 hgr B1.size hOB)
        clear hrun O2 hgr hOB OW B1
        go_wp2_with (at_builtin; refine wpList_ap rfl (.tmp 23) (.tmp 25) 23 (by rfl) _ _ (by rfl) (by rfl) _ (by rfl) _ _ HR.out ?_)
        go_roundw
        case rel =>
          refine ⟨kk + 1, hlt, by go_num, ?_, HO.out, V2.out⟩
          intro j hj
          rcases Nat.lt_or_ge j kk with h1 | h1
          · exact HALL.out j h1
          · have : j = kk := by omega
            subst this
            rw [HR1.out]
            exact HOK.out
        case measure => simp [intOf]; omega
      · rw [show outT r1 = 0 from if_neg hok, show outL r1 = 0 from if_neg hok, show outE r1 = 3 from if_neg hok] at he
        subst he
        obtain ⟨rfl, rfl⟩ := NO fun hh => hok (hh _ HMEM.out)
        have B1 := bl_alloc B0 (.cells #[.int .i64 0, .int .i64 0] 36)
        go_wp2
        go_ret2
        exact ⟨⟨none, 0, 0, rfl, NuB.nil _ _⟩, B1⟩
    · have hkn : kk = m := by omega
      subst hkn
      have hok : osOk R := all_of_getD (p := Fits) fun j hj => HALL.out j (by rw [L.out] at hj; omega)
      obtain ⟨rfl, rfl⟩ := YES hok
      obtain ⟨A', c', rfl, hrd⟩ := KN.rdN OW (by omega)
      rw [List.take_of_length_le (by rw [L.out]; exact Nat.le_refl _)] at OW
      have HOW := Lib.hid OW
      rw [List.take_of_length_le (by rw [L.out]; exact Nat.le_refl _)] at hrd
      have HRD := Lib.hid hrd
      clear OW hrd YES NO
      go_wp2
      go_ret2
      exact ⟨⟨A', _, c', rfl, HRD.out, HOW.out⟩, B0⟩
end Go.Proofs.Ytjmbpeniibdnoaa

namespace Go.Proofs.Ytjmbpeniibdnoaa
open Go.RowKit

/-- What lin.Echelon hands back. -/
def echF (n : Int) (F : List Fm) : List Fm × Bool × Int :=
  if OkFs n F then match rowsF n.toNat (F.map rowF) with
    | none => ([], false, 0)
    | some R => (fsF R, fsE R == 0, fsE R)
  else ([], false, 1)
def solX (n : Nat) (R : List Rw) : List Rat := R.foldl (fun x q => x.set (ldF q.1) (-(q.2 / q.1.getD (ldF q.1) 0))) (List.replicate n 0)
/-- What lin.Solve hands back. -/
def solF (n : Int) (F : List Fm) : List (Int × Int) × Bool × Int :=
  if OkFs n F then match rowsF n.toNat (F.map rowF) with
    | none => ([], false, 0)
    | some R => (osF (solX n.toNat R), osE (solX n.toNat R) == 0, osE (solX n.toNat R))
  else ([], false, 1)
theorem kR_a : kR 61 17851 8 ≤ 100000000 := by decide
theorem kR_b : kR 17851 17851 1 ≤ 100000000 := by decide
/-- The rows of valid forms. -/
theorem okf_rows {n : Nat} {F : List Fm} (h : OkFs n F) : (∀ r ∈ F.map rowF, r.1.length = n) ∧ (∀ r ∈ F.map rowF, SzW 61 r) ∧
    ∀ kk, kk ≤ F.length → ∀ B, runF n (fun _ => none) ((F.map rowF).take kk) = some B → Inv n B (((F.map rowF).take kk).map rv) ∧ ∀ k q, B k = some q → SzW 17851 q := by
  refine ⟨fun r hr => ?_, fun r hr => ?_, fun kk hkk B hB => ?_⟩
  · obtain ⟨f, hf, rfl⟩ := List.mem_map.1 hr
    have := (h.2.2 f hf).2.1
    simp [rowF]; omega
  · obtain ⟨f, hf, rfl⟩ := List.mem_map.1 hr
    exact rowF_sz (h.2.2 f hf)
  · rw [← List.map_take] at hB ⊢
    exact run_sz (by have := h.1.2; omega) (F.take kk) (fun f hf => h.2.2 f (List.mem_of_mem_take hf)) hB 17851 (by rw [eB8]; omega)
theorem okf_R {n : Nat} {F : List Fm} (h : OkFs n F) {R : List Rw} (hR : rowsF n (F.map rowF) = some R) : R.length ≤ n ∧ ∀ q ∈ R, q.1.length = n ∧ ldF q.1 < n ∧ q.1.getD (ldF q.1) 0 ≠ 0 ∧ SzW 17851 q := by
  unfold rowsF at hR
  cases e : runF n (fun _ => none) (F.map rowF) with
  | none => rw [e] at hR; cases hR
  | some B =>
    rw [e] at hR
    cases hR
    have h1 := (okf_rows h).2.2 F.length (Nat.le_refl _) B (by rw [List.take_of_length_le (by rw [List.length_map]; exact Nat.le_refl _)]; exact e)
    refine ⟨flatU_len B n, fun q hq => ?_⟩
    have h2 := h1.1.flat q hq
    obtain ⟨k, _, ek⟩ := mem_flat.1 hq
    exact ⟨h2.1, h2.2, ldF_ne q.1 (by omega), h1.2 k q ek⟩
set_option maxHeartbeats 40000000
set_option maxRecDepth 100000
theorem lech_calls (n : Int) (A : Option Addr) (m c : Nat) (F : List Fm) (w : World) (h : RdF w A m F) (hi : ∀ f ∈ F, I64F f) (hl : ∀ f ∈ F, f.1.length ≤ 1000000) (hm : m ≤ 500) :
    Calls Try.prog 12 #[.int .i64 n, .slice A m c] w fun e w' => (∃ A' m' c', e = .returned (.tuple #[.slice A' m' c', .bool (echF n F).2.1, .int .i64 (echF n F).2.2]) ∧ FoB w.heap.size w' A' m' c' (echF n F).1) ∧ Below w.heap.size w w' := by
  have L := Lib.hid h.1
  have HI := Lib.hid hi
  have HL := Lib.hid hl
  have NO : ¬ OkFs n F → echF n F = ([], false, 1) := fun hh => if_neg hh
  have YES : OkFs n F → echF n F = match rowsF n.toNat (F.map rowF) with | none => ([], false, 0) | some R => (fsF R, fsE R == 0, fsE R) := fun hh => if_pos hh
  generalize echF n F = E9 at *
  clear hi hl
  go_enter Try.func12, Try.ntmps12
  go_wp2_with fail
  refine (forms_calls n A m c F _ h).mono ?_
  rintro e w1 ⟨he, hB1⟩
  by_cases hok : OkFs n F
  · rw [decide_eq_true hok] at he
    subst he
    obtain ⟨nn, rfl⟩ : ∃ nn : Nat, n = nn := ⟨n.toNat, by have := hok.1.1; omega⟩
    have Y := YES hok
    have HOK := Lib.hid hok
    rw [Int.toNat_natCast] at Y
    have HY := Lib.hid Y
    have hn8 : nn ≤ 8 := by have := hok.1.2; omega
    clear YES NO hok Y
    go_wp2_with fail
    refine (rows_calls A m c F _ (h.below hB1) HI.out HL.out hm).mono ?_
    rintro e w2 ⟨⟨A2, c2, rfl, hr2⟩, hB2⟩
    have B2 := bl_then hB1 hB2
    clear hB1 hB2
    go_wp2_with fail
    refine (lrows_calls nn hn8 A2 m c2 (F.map rowF) _ hr2 hm (okf_rows HOK.out).1 17851 61 (okf_rows HOK.out).2.1 (fun kk hkk => (okf_rows HOK.out).2.2 kk (by rw [L.out]; exact hkk)) kR_a kR_b (by omega) (by omega)).mono ?_
    rintro e w3 ⟨⟨A3, m3, c3, he, hr3⟩, hB3⟩
    have B3 := bl_then B2 hB3
    clear B2 hB3
    cases hR : rowsF nn (F.map rowF) with
    | none =>
      rw [hR] at he
      subst he
      have hy := HY.out
      rw [hR] at hy
      dsimp only at hy
      subst hy
      clear HY hR
      simp only [Option.isSome_none]
      go_wp2
      go_ret3
      exact ⟨⟨none, 0, 0, rfl, FoB.nil _ _⟩, B3⟩
    | some R =>
      rw [hR] at he hr3
      subst he
      have hy := HY.out
      rw [hR] at hy
      dsimp only at hy
      subst hy
      have hRl := (okf_R HOK.out hR).1
      have hm3 := hr3.1
      simp only [Option.getD_some] at hm3 hr3
      clear HY hR
      simp only [Option.isSome_some]
      go_wp2_with fail
      refine (lforms_calls A3 m3 c3 R _ hr3 (by omega)).mono ?_
      rintro e w4 ⟨⟨A4, m4, c4, rfl, hr4⟩, hB4⟩
      have HR4 := Lib.hid (hr4.mono (b' := w.heap.size) (by exact B3.size))
      have B4 := bl_then B3 hB4
      clear hB4 B3
      go_wp2
      go_ret3
      exact ⟨⟨A4, m4, c4, rfl, HR4.out⟩, B4⟩
  · rw [decide_eq_false hok] at he
    subst he
    have hy := NO hok
    subst hy
    clear YES NO hok
    go_wp2
    go_ret3
    exact ⟨⟨none, 0, 0, rfl, FoB.nil _ _⟩, hB1⟩
end Go.Proofs.Ytjmbpeniibdnoaa

namespace Go.Proofs.Ytjmbpeniibdnoaa
open Go.RowKit

set_option maxHeartbeats 40000000
set_option maxRecDepth 100000
def solS (x : List Rat) (q : Rw) : List Rat := x.set (ldF q.1) (-(q.2 / q.1.getD (ldF q.1) 0))
theorem solX_snoc (n : Nat) (R : List Rw) (kk : Nat) (hk : kk < R.length) : (R.take (kk + 1)).foldl solS (List.replicate n 0) = solS ((R.take kk).foldl solS (List.replicate n 0)) (R.getD kk ([], 0)) := by
  rw [take_snoc R ([], 0) kk hk, List.foldl_append]; rfl
theorem solX_eq (n : Nat) (R : List Rw) : solX n R = R.foldl solS (List.replicate n 0) := rfl
theorem lsol_calls (n : Int) (A : Option Addr) (m c : Nat) (F : List Fm) (w : World) (h : RdF w A m F) (hi : ∀ f ∈ F, I64F f) (hl : ∀ f ∈ F, f.1.length ≤ 1000000) (hm : m ≤ 500) :
    Calls Try.prog 13 #[.int .i64 n, .slice A m c] w fun e w' => (∃ A' m' c', e = .returned (.tuple #[.slice A' m' c', .bool (solF n F).2.1, .int .i64 (solF n F).2.2]) ∧ NuB w.heap.size w' A' m' c' (solF n F).1) ∧ Below w.heap.size w w' := by
  have L := Lib.hid h.1
  have HI := Lib.hid hi
  have HL := Lib.hid hl
  have NO : ¬ OkFs n F → solF n F = ([], false, 1) := fun hh => if_neg hh
  have YES : OkFs n F → solF n F = match rowsF n.toNat (F.map rowF) with | none => ([], false, 0) | some R => (osF (solX n.toNat R), osE (solX n.toNat R) == 0, osE (solX n.toNat R)) := fun hh => if_pos hh
  generalize solF n F = E9 at *
  clear hi hl
  go_enter Try.func13, Try.ntmps13
  go_wp2_with fail
  refine (forms_calls n A m c F _ h).mono ?_
  rintro e w1 ⟨he, hB1⟩
  by_cases hok : OkFs n F
  · rw [decide_eq_true hok] at he
    subst he
    obtain ⟨nn, rfl⟩ : ∃ nn : Nat, n = nn := ⟨n.toNat, by have := hok.1.1; omega⟩
    have Y := YES hok
    have HOK := Lib.hid hok
    rw [Int.toNat_natCast] at Y
    have HY := Lib.hid Y
    have hn8 : nn ≤ 8 := by have := hok.1.2; omega
    clear YES NO hok Y
    go_wp2_with fail
    refine (rows_calls A m c F _ (h.below hB1) HI.out HL.out hm).mono ?_
    rintro e w2 ⟨⟨A2, c2, rfl, hr2⟩, hB2⟩
    have B2 := bl_then hB1 hB2
    clear hB1 hB2
    go_wp2_with fail
    refine (lrows_calls nn hn8 A2 m c2 (F.map rowF) _ hr2 hm (okf_rows HOK.out).1 17851 61 (okf_rows HOK.out).2.1 (fun kk hkk => (okf_rows HOK.out).2.2 kk (by rw [L.out]; exact hkk)) kR_a kR_b (by omega) (by omega)).mono ?_
    rintro e w3 ⟨⟨A3, m3, c3, he, hr3⟩, hB3⟩
    have B3 := bl_then B2 hB3
    clear B2 hB3
    cases hR : rowsF nn (F.map rowF) with
    | none =>
      rw [hR] at he
      subst he
      have hy := HY.out
      rw [hR] at hy
      dsimp only at hy
      subst hy
      clear HY hR
      simp only [Option.isSome_none]
      go_wp2
      go_ret3
      exact ⟨⟨none, 0, 0, rfl, NuB.nil _ _⟩, B3⟩
    | some R =>
      rw [hR] at he hr3
      subst he
      have hy := HY.out
      rw [hR] at hy
      dsimp only at hy
      subst hy
      have hRR := Lib.hid (okf_R HOK.out hR)
      simp only [Option.getD_some] at hr3
      have LR := Lib.hid hr3.1
      have hm3 : m3 ≤ 8 := by have h1 := hRR.out.1; have h2 := LR.out; omega
      clear HY hR
      simp only [Option.isSome_some]
      obtain ⟨cs, hcs, qm⟩ := made_q nn (by omega)
      have OQ := OwnQ.made_at (base := w3.heap.size) (W := w3) nn rfl (Nat.le_refl _) (by omega) cs hcs
      have BW := bl_alloc (Below.refl w3.heap.size w3) (.cells cs 63)
      go_wp2_with fail
      clear qm
      go_loopw [32] (fun i wr => ∃ kk : Nat, kk ≤ m3 ∧ i = .int .i64 kk ∧ OwnQ wr w3.heap.size w3.heap.size nn nn ((R.take kk).foldl solS (List.replicate nn 0)) ∧ Below w3.heap.size w3 wr) (fun i _ => m3 - (intOf i).toNat)
      case atStart => exact ⟨0, Nat.zero_le _, rfl, OQ, BW⟩
      case round =>
        clear OQ BW
        obtain ⟨kk, hkk, rfl, OQ, BW⟩ := hrel
        by_cases hlt : kk < m3
        · obtain ⟨g, off, rfl, hg, hc⟩ := (hr3.below BW).2.2 (by omega)
          obtain ⟨A1, n1, c1, x1, b1, ⟨p1, p2, p3, p4, p5, p6⟩, t1⟩ := hc kk hlt
          have hmem : R.getD kk ([], 0) ∈ R := mem_getD (by rw [LR.out]; exact hlt)
          obtain ⟨hq1, hld, hcq, hsz⟩ := hRR.out.2 _ hmem
          have hn1 : nn = n1 := by rw [← t1.1.1]; exact hq1.symm
          subst hn1
          have HF : Hid ((R.take (kk + 1)).foldl solS (List.replicate nn 0) = ((R.take kk).foldl solS (List.replicate nn 0)).set (ldF (R.getD kk ([], 0)).1) (-((R.getD kk ([], 0)).2 / (R.getD kk ([], 0)).1.getD (ldF (R.getD kk ([], 0)).1) 0))) := Lib.hid (solX_snoc nn R kk (by rw [LR.out]; exact hlt))
          have HSQ := Lib.hid hsz
          clear hc hmem hsz
          generalize R.getD kk ([], 0) = q1 at *
          have HSC := Lib.hid (HSQ.out.1 (ldF q1.1))
          generalize hldg : ldF q1.1 = ld at *
          have HLD := Lib.hid hldg
          clear hldg
          go_upto_region 10 with (fail)
          have a8 : (wr.alloc (.cells #[.slice A1 nn c1, .int .i64 x1.v, .slice x1.A x1.n x1.c, .int .i64 x1.v', .slice x1.A' x1.n' x1.c', .bool b1] 65)).heap[wr.heap.size]? = some (.cells #[.slice A1 nn c1, .int .i64 x1.v, .slice x1.A x1.n x1.c, .int .i64 x1.v', .slice x1.A' x1.n' x1.c', .bool b1] 65 (0, 0)) := blk_at _ rfl
          replace t1 := t1.below (bl_alloc (Below.refl _ _) (.cells #[.slice A1 nn c1, .int .i64 x1.v, .slice x1.A x1.n x1.c, .int .i64 x1.v', .slice x1.A' x1.n' x1.c', .bool b1] 65))
          replace OQ := OQ.alloc (.cells #[.slice A1 nn c1, .int .i64 x1.v, .slice x1.A x1.n x1.c, .int .i64 x1.v', .slice x1.A' x1.n' x1.c', .bool b1] 65)
          replace BW := bl_alloc BW (.cells #[.slice A1 nn c1, .int .i64 x1.v, .slice x1.A x1.n x1.c, .int .i64 x1.v', .slice x1.A' x1.n' x1.c', .bool b1] 65)
          clear p1 p2 p3 p4 p5 p6 hg
          generalize wr.heap.size = g8 at *
          generalize wr.alloc (.cells #[.slice A1 nn c1, .int .i64 x1.v, .slice x1.A x1.n x1.c, .int .i64 x1.v', .slice x1.A' x1.n' x1.c', .bool b1] 65) = W4 at *
          obtain ⟨⟨f1, f2, f3, f4, f5, f6⟩, f7⟩ := q6 a8
          go_wp2_with fail
          refine (lead_calls A1 nn c1 x1 b1 q1 _ t1).mono ?_
          rintro e W5 ⟨he, hB6⟩
          rw [HLD.out] at he
          subst he
          replace a8 := blk_below a8 hB6
          replace t1 := t1.below hB6
          replace OQ := OQ.below hB6
          replace BW := bl_then BW hB6
          clear f1 f2 f3 f4 f5 f6 f7 hB6
          obtain ⟨gp, op, rfl, lgp, hcp⟩ := t1.1.2.2.1 (by omega)
          obtain ⟨y, ay, hy⟩ := hcp ld hld
          replace hy : RatV W5 y.v y.A y.n y.c y.v' y.A' y.n' y.c' (q1.1.getD ld 0) := hy
          clear hcp
          generalize q1.1.getD ld 0 = cq at *
          have hk0 : (0 : Int) ≤ (ld : Int) := by omega
          have hkn : (ld : Int) < (nn : Int) := by omega
          go_upto_region 11 with (fail)
          have a8_0 := blk_drew a8
          have ay_0 := At4.dr ay
          have hS0 : W5.drew.cell? ⟨g8, 0, none⟩ = some (Value.slice (some ⟨gp, op, none⟩) nn c1) ∧ W5.drew.cell? ⟨g8, 1, none⟩ = some (Value.int .i64 x1.v) ∧ W5.drew.cell? ⟨g8, 2, none⟩ = some (Value.slice x1.A x1.n x1.c) ∧ W5.drew.cell? ⟨g8, 3, none⟩ = some (Value.int .i64 x1.v') ∧ W5.drew.cell? ⟨g8, 4, none⟩ = some (Value.slice x1.A' x1.n' x1.c') ∧ W5.drew.cell? ⟨g8, 5, none⟩ = some (Value.bool b1) ∧ W5.drew.cell? ⟨gp, op + ld * 4, none⟩ = some (Value.int .i64 y.v) ∧ W5.drew.cell? ⟨gp, op + ld * 4 + 1, none⟩ = some (Value.slice y.A y.n y.c) ∧ W5.drew.cell? ⟨gp, op + ld * 4 + 2, none⟩ = some (Value.int .i64 y.v') ∧ W5.drew.cell? ⟨gp, op + ld * 4 + 3, none⟩ = some (Value.slice y.A' y.n' y.c') := qj6 (qx6 (t := 65) a8_0) (at4c ay_0)
          refine wp_region_T (n := 12) (fun W => W.cell? ⟨g8, 0, none⟩ = some (Value.slice (some ⟨gp, op, none⟩) nn c1) ∧ W.cell? ⟨g8, 1, none⟩ = some (Value.int .i64 x1.v) ∧ W.cell? ⟨g8, 2, none⟩ = some (Value.slice x1.A x1.n x1.c) ∧ W.cell? ⟨g8, 3, none⟩ = some (Value.int .i64 x1.v') ∧ W.cell? ⟨g8, 4, none⟩ = some (Value.slice x1.A' x1.n' x1.c') ∧ W.cell? ⟨g8, 5, none⟩ = some (Value.bool b1) ∧ W.cell? ⟨gp, op + ld * 4, none⟩ = some (Value.int .i64 y.v) ∧ W.cell? ⟨gp, op + ld * 4 + 1, none⟩ = some (Value.slice y.A y.n y.c) ∧ W.cell? ⟨gp, op + ld * 4 + 2, none⟩ = some (Value.int .i64 y.v') ∧ W.cell? ⟨gp, op + ld * 4 + 3, none⟩ = some (Value.slice y.A' y.n' y.c')) (by kernel_rfl) ?_
          refine wpT_take (n := 12) (i := 0) (v := ?_) (by decide) (by kernel_rfl) rfl (by kernel_rfl) (by kernel_rfl) (by kernel_rfl) (fun _ _ _ h => h) (Or.inl ⟨by rfl, ?_⟩) hS0 ?_
          rotate_left
          · intro w' hSw
            (try dsimp only at hSw)
            go_simp
            (try with_reducible rfl)
          try simp only [Act.put, List.setIfInBounds_toArray, List.set_cons_zero, List.set_cons_succ]
          refine wpT_take (n := 12) (i := 1) (v := ?_) (by decide) (by kernel_rfl) rfl (by kernel_rfl) (by kernel_rfl) (by kernel_rfl) (fun _ _ _ h => h) (Or.inl ⟨by rfl, ?_⟩) hS0 ?_
          rotate_left
          · intro w' hSw
            (try dsimp only at hSw)
            go_simp
            (try with_reducible rfl)
          try simp only [Act.put, List.setIfInBounds_toArray, List.set_cons_zero, List.set_cons_succ]
          refine wpT_take (n := 12) (i := 2) (v := ?_) (by decide) (by kernel_rfl) rfl (by kernel_rfl) (by kernel_rfl) (by kernel_rfl) (fun _ _ _ h => h) (Or.inl ⟨by rfl, ?_⟩) hS0 ?_
          rotate_left
          · intro w' hSw
            (try dsimp only at hSw)
            go_simp
            (try with_reducible rfl)
          try simp only [Act.put, List.setIfInBounds_toArray, List.set_cons_zero, List.set_cons_succ]
          refine wpT_take (n := 12) (i := 3) (v := ?_) (by decide) (by kernel_rfl) rfl (by kernel_rfl) (by kernel_rfl) (by kernel_rfl) (fun _ _ _ h => h) (Or.inl ⟨by rfl, ?_⟩) hS0 ?_
          rotate_left
          · intro w' hSw
            (try dsimp only at hSw)
            go_simp
            (try with_reducible rfl)
          try simp only [Act.put, List.setIfInBounds_toArray, List.set_cons_zero, List.set_cons_succ]
          refine wpT_take (n := 12) (i := 4) (v := ?_) (by decide) (by kernel_rfl) rfl (by kernel_rfl) (by kernel_rfl) (by kernel_rfl) (fun _ _ _ h => h) (Or.inl ⟨by rfl, ?_⟩) hS0 ?_
          rotate_left
          · intro w' hSw
            (try dsimp only at hSw)
            go_simp
            (try with_reducible rfl)
          try simp only [Act.put, List.setIfInBounds_toArray, List.set_cons_zero, List.set_cons_succ]
          refine wpT_take (n := 12) (i := 5) (v := ?_) (by decide) (by kernel_rfl) rfl (by kernel_rfl) (by kernel_rfl) (by kernel_rfl) (fun _ _ _ h => h) (Or.inl ⟨by rfl, ?_⟩) hS0 ?_
          rotate_left
          · intro w' hSw
            (try dsimp only at hSw)
            go_simp
            (try with_reducible rfl)
          try simp only [Act.put, List.setIfInBounds_toArray, List.set_cons_zero, List.set_cons_succ]
          refine wpT_take (n := 12) (i := 6) (v := ?_) (by decide) (by kernel_rfl) rfl (by kernel_rfl) (by kernel_rfl) (by kernel_rfl) (fun _ _ _ h => h) (Or.inl ⟨by rfl, ?_⟩) hS0 ?_
          rotate_left
          · intro w' hSw
            (try dsimp only at hSw)
            go_simp
            (try with_reducible rfl)
          try simp only [Act.put, List.setIfInBounds_toArray, List.set_cons_zero, List.set_cons_succ]
          refine wpT_take (n := 12) (i := 7) (v := ?_) (by decide) (by kernel_rfl) rfl (by kernel_rfl) (by kernel_rfl) (by kernel_rfl) (fun _ _ _ h => h) (Or.inl ⟨by rfl, ?_⟩) hS0 ?_
          rotate_left
          · intro w' hSw
            (try dsimp only at hSw)
            go_simp
            (try with_reducible rfl)
          try simp only [Act.put, List.setIfInBounds_toArray, List.set_cons_zero, List.set_cons_succ]
          refine wpT_take (n := 12) (i := 8) (v := ?_) (by decide) (by kernel_rfl) rfl (by kernel_rfl) (by kernel_rfl) (by kernel_rfl) (fun _ _ _ h => h) (Or.inl ⟨by rfl, ?_⟩) hS0 ?_
          rotate_left
          · intro w' hSw
            (try dsimp only at hSw)
            go_simp
            (try with_reducible rfl)
          try simp only [Act.put, List.setIfInBounds_toArray, List.set_cons_zero, List.set_cons_succ]
          refine wpT_one (n := 12) (i := 9) (by kernel_rfl) rfl (fun K9 hK9 => ?_)
          go_simp
          refine (rdiv_calls x1.v x1.A x1.n x1.c x1.v' x1.A' x1.n' x1.c' q1.2 y.v y.A y.n y.c y.v' y.A' y.n' y.c' cq _ (RatV.dr t1.2) (RatV.dr hy) 17851 HSQ.out.2 HSC.out (by omega) hcq).mono ?_
          rintro e y1 ⟨⟨v2, A2, n2, c2, v2', A2', n2', c2', rfl, t2⟩, hB1⟩
          have H1 : Below W5.heap.size W5 y1 := bl_then (bl_drew (Below.refl _ _)) hB1
          have a8_1 := blk_below a8 H1
          have ay_1 := At4.below ay lgp H1
          have hS1 : y1.cell? ⟨g8, 0, none⟩ = some (Value.slice (some ⟨gp, op, none⟩) nn c1) ∧ y1.cell? ⟨g8, 1, none⟩ = some (Value.int .i64 x1.v) ∧ y1.cell? ⟨g8, 2, none⟩ = some (Value.slice x1.A x1.n x1.c) ∧ y1.cell? ⟨g8, 3, none⟩ = some (Value.int .i64 x1.v') ∧ y1.cell? ⟨g8, 4, none⟩ = some (Value.slice x1.A' x1.n' x1.c') ∧ y1.cell? ⟨g8, 5, none⟩ = some (Value.bool b1) ∧ y1.cell? ⟨gp, op + ld * 4, none⟩ = some (Value.int .i64 y.v) ∧ y1.cell? ⟨gp, op + ld * 4 + 1, none⟩ = some (Value.slice y.A y.n y.c) ∧ y1.cell? ⟨gp, op + ld * 4 + 2, none⟩ = some (Value.int .i64 y.v') ∧ y1.cell? ⟨gp, op + ld * 4 + 3, none⟩ = some (Value.slice y.A' y.n' y.c') := qj6 (qx6 (t := 65) a8_1) (at4c ay_1)
          refine hK9.out _ _ (fun _ => hS1) (fun _ => ?_)
          clear hK9 K9
          try simp only [Act.put, List.setIfInBounds_toArray, List.set_cons_zero, List.set_cons_succ]
          refine wpT_one (n := 12) (i := 10) (by kernel_rfl) rfl (fun K9 hK9 => ?_)
          go_simp
          refine (rneg_calls v2 A2 n2 c2 v2' A2' n2' c2' _ _ t2).mono ?_
          rintro e y2 ⟨⟨v3, A3, n3, c3, v3', A3', n3', c3', rfl, t3⟩, hB2⟩
          have H2 := bl_then H1 hB2
          have a8_2 := blk_below a8 H2
          have ay_2 := At4.below ay lgp H2
          have hS2 : y2.cell? ⟨g8, 0, none⟩ = some (Value.slice (some ⟨gp, op, none⟩) nn c1) ∧ y2.cell? ⟨g8, 1, none⟩ = some (Value.int .i64 x1.v) ∧ y2.cell? ⟨g8, 2, none⟩ = some (Value.slice x1.A x1.n x1.c) ∧ y2.cell? ⟨g8, 3, none⟩ = some (Value.int .i64 x1.v') ∧ y2.cell? ⟨g8, 4, none⟩ = some (Value.slice x1.A' x1.n' x1.c') ∧ y2.cell? ⟨g8, 5, none⟩ = some (Value.bool b1) ∧ y2.cell? ⟨gp, op + ld * 4, none⟩ = some (Value.int .i64 y.v) ∧ y2.cell? ⟨gp, op + ld * 4 + 1, none⟩ = some (Value.slice y.A y.n y.c) ∧ y2.cell? ⟨gp, op + ld * 4 + 2, none⟩ = some (Value.int .i64 y.v') ∧ y2.cell? ⟨gp, op + ld * 4 + 3, none⟩ = some (Value.slice y.A' y.n' y.c') := qj6 (qx6 (t := 65) a8_2) (at4c ay_2)
          have OQ2 := OQ.below H2
          have o5 := OQ2.frozen (ld * 4)
          have o6 := OQ2.frozen (ld * 4 + 1)
          have o7 := OQ2.frozen (ld * 4 + 2)
          have o8 := OQ2.frozen (ld * 4 + 3)
          obtain ⟨o0, ⟨o1, o2, o3, o4⟩, o9⟩ := OQ2.at ld hld
          refine hK9.out _ _ (fun _ => hS2) (fun _ => ?_)
          clear hK9 K9
          try simp only [Act.put, List.setIfInBounds_toArray, List.set_cons_zero, List.set_cons_succ]
          refine wpT_take (n := 12) (i := 11) (v := ?_) (by decide) (by kernel_rfl) rfl (by kernel_rfl) (by kernel_rfl) (by kernel_rfl) (fun _ _ _ h => h) (Or.inl ⟨by rfl, ?_⟩) hS2 ?_
          rotate_left
          · intro w' hSw
            (try dsimp only at hSw)
            go_simp
            (try with_reducible rfl)
          try simp only [Act.put, List.setIfInBounds_toArray, List.set_cons_zero, List.set_cons_succ]
          refine wpT_one (n := 12) (i := 12) (by kernel_rfl) rfl (fun K9 hK9 => ?_)
          go_simp
          refine hK9.out _ _ (fun h => absurd rfl h) (fun _ => ?_)
          clear hK9 K9
          try simp only [Act.put, List.setIfInBounds_toArray, List.set_cons_zero, List.set_cons_succ]
          refine wpT_done (by kernel_rfl) ?_ _
          have U1 := Lib.hid (OQ2.set (bl_then BW H2) (Nat.le_refl _) ld hld _ _ _ _ _ _ _ _ _ t3)
          clear o9
          go_wp2
          go_roundw
          case rel => exact ⟨kk + 1, hlt, by go_num, (by rw [HF.out]; exact U1.out.1), U1.out.2⟩
          case measure => simp [intOf]; omega
        · have hkn : m3 = kk := by omega
          subst hkn
          rw [List.take_of_length_le (by rw [LR.out]; exact Nat.le_refl _), ← solX_eq] at OQ
          have hrd := OwnQ.rd OQ (by omega)
          go_wp2_with fail
          refine (outs_calls _ nn nn (solX nn R) _ hrd (by omega)).mono ?_
          rintro e w4 ⟨⟨A4, m4, c4, rfl, hr4⟩, hB4⟩
          have HR4 := Lib.hid (hr4.mono (b' := w.heap.size) (Nat.le_trans B3.size BW.size))
          have B4 := bl_then (bl_then B3 BW) hB4
          clear hB4 B3
          go_wp2
          go_ret3
          exact ⟨⟨A4, m4, c4, rfl, HR4.out⟩, B4⟩
  · rw [decide_eq_false hok] at he
    subst he
    have hy := NO hok
    subst hy
    clear YES NO hok
    go_wp2
    go_ret3
    exact ⟨⟨none, 0, 0, rfl, NuB.nil _ _⟩, hB1⟩
end Go.Proofs.Ytjmbpeniibdnoaa

namespace Go.Proofs.Ytjmbpeniibdnoaa
open Go.RowKit

set_option maxHeartbeats 40000000
set_option maxRecDepth 100000
theorem allnum_calls (A : Option Addr) (n c : Nat) (l : List (Int × Int)) (w : World) (h : RdN w A n l) (hi : I64s l) :
    Calls Try.prog 30 #[.slice A n c, .func (.func 31) #[] #[]] w fun e w' => e = .returned (.bool (decide (OkNs l))) ∧ Below w.heap.size w w' := by
  have L := Lib.hid h.1
  have hn := h.2.1
  generalize hB : decide (OkNs l) = B
  have HB := Lib.hid hB
  clear hB
  go_enter Try.func30, Try.ntmps30
  go_wp2_with fail
  go_loopw [9] (fun i wr => ∃ k : Nat, k ≤ n ∧ i = .int .i64 k ∧ (∀ j, j < k → OkN (l.getD j (0, 0)).1 (l.getD j (0, 0)).2) ∧ Below w.heap.size w wr) (fun i _ => n - (intOf i).toNat)
  case atStart => exact ⟨0, Nat.zero_le _, rfl, fun j hj => absurd hj (by omega), Below.refl _ _⟩
  case round =>
    obtain ⟨k, hk, rfl, hall, hBw⟩ := hrel
    have HALL := Lib.hid hall
    clear hall
    by_cases hlt : k < n
    · obtain ⟨g, off, rfl, hg, hc⟩ := (h.below hBw).2.2 (by omega)
      obtain ⟨c1, c2⟩ := hc k hlt
      have h64 := hi _ (mem_getD (d := (0, 0)) (by rw [L.out]; exact hlt) : l.getD k (0, 0) ∈ l)
      clear hc h
      generalize hx1 : l.getD k (0, 0) = x1 at *
      have HX1 := Lib.hid hx1
      clear hx1
      go_wp2_with fail
      refine (valid_calls x1.1 x1.2 _ h64.1.1 h64.1.2 h64.2.1 h64.2.2).mono ?_
      rintro e w1 ⟨he, hB1⟩
      replace hBw := bl_then (bl_alloc hBw (.cells #[.int .i64 x1.1, .int .i64 x1.2] 36)) hB1
      clear hB1 c1 c2 h64
      by_cases hok : OkN x1.1 x1.2
      · rw [decide_eq_true hok] at he
        subst he
        replace hok := Lib.hid hok
        go_wp2
        go_roundw
        case rel =>
          refine ⟨k + 1, hlt, by go_num, ?_, hBw⟩
          intro j hj
          rcases Nat.lt_or_ge j k with h1 | h1
          · exact HALL.out j h1
          · have : j = k := by omega
            subst this
            rw [HX1.out]
            exact hok.out
        case measure => simp [intOf]; omega
      · rw [decide_eq_false hok] at he
        subst he
        have hf : B = false := by
          rw [← HB.out, decide_eq_false]
          intro hh
          have := hh _ (mem_getD (d := (0, 0)) (by rw [L.out]; exact hlt) : l.getD k (0, 0) ∈ l)
          rw [HX1.out] at this
          exact hok this
        subst hf
        go_wp2
        go_ret
        exact ⟨rfl, hBw⟩
    · have hf : B = true := by
        rw [← HB.out, decide_eq_true]
        exact all_of_getD (p := fun x : Int × Int => OkN x.1 x.2) (d := (0, 0)) fun j hj => HALL.out j (by rw [L.out] at hj; omega)
      subst hf
      go_wp2
      go_ret
      exact ⟨rfl, hBw⟩
/-- A valid point. -/
def OkX (n : Int) (x : List (Int × Int)) : Prop := dimO n ∧ (x.length : Int) = n ∧ OkNs x
instance (n : Int) (x : List (Int × Int)) : Decidable (OkX n x) := by unfold OkX; infer_instance
theorem validpoint_calls (n : Int) (A : Option Addr) (m c : Nat) (x : List (Int × Int)) (w : World) (h : RdN w A m x) (hi : I64s x) :
    Calls Try.prog 25 #[.int .i64 n, .slice A m c] w fun e w' => e = .returned (.bool (decide (OkX n x))) ∧ Below w.heap.size w w' := by
  have L := Lib.hid h.1
  generalize hB : decide (OkX n x) = B
  have HB := Lib.hid hB
  clear hB
  have NO : ¬ OkX n x → B = false := fun h => by rw [← HB.out, decide_eq_false h]
  go_enter Try.func25, Try.ntmps25
  go_wp2_with fail
  refine (dim_calls n _).mono ?_
  rintro e w1 ⟨he, hB1⟩
  by_cases hd : dimO n
  · rw [decide_eq_true hd] at he
    subst he
    by_cases hl : (m : Int) = n
    · have hl' : decide ((m : Int) = n) = true := decide_eq_true hl
      go_wp2_with fail
      refine (allnum_calls A m c x _ (h.below hB1) hi).mono ?_
      rintro e w3 ⟨he, hB3⟩
      have : decide (OkNs x) = B := by
        rw [← HB.out]
        apply decide_eq_decide.2
        exact ⟨fun hm => ⟨hd, by rw [L.out]; exact hl, hm⟩, fun hm => hm.2.2⟩
      rw [this] at he
      subst he
      have B0 := bl_then hB1 hB3
      go_wp2
      go_ret
      exact ⟨rfl, B0⟩
    · have hf := NO fun hh => hl (by have := hh.2.1; rw [L.out] at this; exact this)
      subst hf
      have hl' : decide ((m : Int) = n) = false := decide_eq_false hl
      go_wp2
      go_ret
      exact ⟨rfl, hB1⟩
  · rw [decide_eq_false hd] at he
    subst he
    have hf := NO fun hh => hd hh.1
    subst hf
    go_wp2
    go_ret
    exact ⟨rfl, hB1⟩
/-- A point as rationals. -/
def ratP (x : Int × Int) : Rat := Rat.divInt x.1 x.2
theorem lrats_calls (A : Option Addr) (m c : Nat) (X : List (Int × Int)) (w : World) (h : RdN w A m X) (hi : I64s X) (hz : ∀ x ∈ X, OkN x.1 x.2) (hm : m ≤ 500) :
    Calls Try.prog 28 #[.slice A m c] w fun e w' => (∃ A' c', e = .returned (.slice A' m c') ∧ RdQ w' A' m (X.map ratP)) ∧ Below w.heap.size w w' := by
  have L := Lib.hid h.1
  have HI := Lib.hid hi
  have HZ := Lib.hid hz
  clear hi hz
  go_enter Try.func28, Try.ntmps28
  have O0 := Kind.Own.nil (K := KQ) w w.heap.size
  have B0 := Below.refl w.heap.size w
  go_wp2_with fail
  go_loopw [3, 8] (fun v i wr => ∃ kk : Nat, kk ≤ m ∧ i = .int .i64 kk ∧ KQ.Own wr w.heap.size v kk ((X.take kk).map ratP) ∧ Below w.heap.size w wr) (fun _ i _ => m - (intOf i).toNat)
  case atStart => exact ⟨0, Nat.zero_le _, rfl, O0, B0⟩
  case round =>
    clear O0 B0
    obtain ⟨kk, hkk, rfl, OW, B0⟩ := hrel
    by_cases hlt : kk < m
    · obtain ⟨g, off, rfl, hg, hc⟩ := (h.below B0).2.2 (by omega)
      obtain ⟨p1, p2⟩ := hc kk hlt
      have E := Lib.hid (map_take_succ ratP X (0, 0) kk (by rw [L.out]; exact hlt))
      have hmem : X.getD kk (0, 0) ∈ X := mem_getD (by rw [L.out]; exact hlt)
      have hok := HZ.out _ hmem
      have h64 := HI.out _ hmem
      clear hc h hmem
      generalize X.getD kk (0, 0) = x1 at *
      replace OW := OW.below KQ.ok (bl_alloc (Below.refl _ _) (.cells #[.int .i64 x1.1, .int .i64 x1.2] 36))
      replace B0 := bl_alloc B0 (.cells #[.int .i64 x1.1, .int .i64 x1.2] 36)
      go_wp2_with fail
      refine (rat_calls x1.1 x1.2 _ h64.1.1 h64.1.2 h64.2.1 h64.2.2 (by have := hok.1; omega)).mono ?_
      rintro e w1 ⟨⟨v2, A2, n2, c2, v2', A2', n2', c2', rfl, t2⟩, hB1⟩
      replace OW := OW.below KQ.ok hB1
      replace B0 := bl_then B0 hB1
      clear hB1 p1 p2 hg hok h64
      replace OW := OW.below KQ.ok (bl_alloc (Below.refl _ _) (.cells #[.int .i64 v2, .slice A2 n2 c2, .int .i64 v2', .slice A2' n2' c2'] 63))
      have B1 := bl_alloc B0 (.cells #[.int .i64 v2, .slice A2 n2 c2, .int .i64 v2', .slice A2' n2' c2'] 63)
      have t3 : KQ.Is (w1.alloc (.cells #[.int .i64 v2, .slice A2 n2 c2, .int .i64 v2', .slice A2' n2' c2'] 63)) ⟨v2, A2, n2, c2, v2', A2', n2', c2'⟩ (ratP x1) := RatV.al t2 _
      obtain ⟨v', W', hrun, O2, hgr⟩ := appg1 (c := 1) (g := w1.heap.size) KQ.ok 58 _ 64 info_rat Try.underlying58 rfl (by omega) OW ⟨v2, A2, n2, c2, v2', A2', n2', c2'⟩ (ratP x1) _ (blk_at _ rfl) rfl t3 (by omega) B1.size
      rw [← E.out] at O2
      have HR := Lib.hid hrun
      have HO := Lib.hid O2
      have hOB := OW.ge
      have V2 : Hid (Below w.heap.size w W') := Lib.hid (below_of_grown B1 hgr B1.size hOB)
      clear hrun O2 hgr hOB OW B1 t2 t3
      go_wp2_with (at_builtin; refine wpList_ap rfl (.tmp 12) (.tmp 15) 58 (by rfl) _ _ (by rfl) (by rfl) _ (by rfl) _ _ HR.out ?_)
      go_roundw
      case rel => exact ⟨kk + 1, hlt, by go_num, HO.out, V2.out⟩
      case measure => simp [intOf]; omega
    · have hkn : m = kk := by omega
      subst hkn
      obtain ⟨A', c', rfl, hrd⟩ := KQ.rdQ OW (by omega)
      rw [List.take_of_length_le (by rw [L.out]; exact Nat.le_refl _)] at hrd
      have HRD := Lib.hid hrd
      clear OW hrd
      go_wp2
      go_ret
      exact ⟨⟨A', c', rfl, HRD.out⟩, B0⟩
end Go.Proofs.Ytjmbpeniibdnoaa

namespace Go.Proofs.Ytjmbpeniibdnoaa
open Go.RowKit

/-- The value of a row at a point: the first k terms. -/
def valK (r : Rw) (x : List Rat) : Nat → Rat
  | 0 => r.2
  | k + 1 => valK r x k + r.1.getD k 0 * x.getD k 0
theorem valK_sz {r : Rw} {x : List Rat} {K : Nat} (hr : SzW K r) (hx : ∀ j, SzR K (x.getD j 0)) (k : Nat) : SzR ((2 * K + 4) * k + K) (valK r x k) := by
  induction k with
  | zero => exact hr.2.mono (by omega)
  | succ k ih =>
    have h1 := qsz_add ih (qsz_mul (hr.1 k) (hx k))
    refine h1.mono ?_
    rw [Nat.mul_succ]
    omega
set_option maxHeartbeats 40000000
set_option maxRecDepth 100000
theorem rowval_calls (A : Option Addr) (n c : Nat) (x : RC) (b : Bool) (r : Rw) (A' : Option Addr) (c' : Nat) (X : List Rat) (w : World) (h : RwV w A n x r) (h' : RdQ w A' n X) (hn : n ≤ 8) (sr : SzW 100 r) (sx : ∀ j, SzR 100 (X.getD j 0)) :
    Calls Try.prog 27 #[.agg #[.slice A n c, .int .i64 x.v, .slice x.A x.n x.c, .int .i64 x.v', .slice x.A' x.n' x.c', .bool b], .slice A' n c'] w fun e w' => RatR e w' (valK r X n) ∧ Below w.heap.size w w' := by
  have LN := Lib.hid h.1.1
  have hq := h.1
  have hx := h.2
  clear h
  obtain ⟨KK, hKK⟩ : ∃ KK, KK = 10000 := ⟨_, rfl⟩
  have HV0 : Hid (∀ k, k ≤ n → SzR KK (valK r X k)) := Lib.hid fun k hk => (valK_sz sr sx k).mono (by have := Nat.mul_le_mul_left (2 * 100 + 4) (show k ≤ 8 by omega); omega)
  have HM0 : Hid (∀ k, SzR KK (r.1.getD k 0 * X.getD k 0)) := Lib.hid fun k => (qsz_mul (sr.1 k) (sx k)).mono (by omega)
  have HC0 : Hid (∀ k, SzR KK (r.1.getD k 0)) := Lib.hid fun k => (sr.1 k).mono (by omega)
  have HX0 : Hid (∀ k, SzR KK (X.getD k 0)) := Lib.hid fun k => (sx k).mono (by omega)
  clear sr sx
  go_enter Try.func27, Try.ntmps27
  have a1 := (blk_alloc (blk_at (W := w) (.cells #[.slice A n c, .int .i64 x.v, .slice x.A x.n x.c, .int .i64 x.v', .slice x.A' x.n' x.c', .bool b] 65) rfl) (.cells #[.int .i64 0, .slice none 0 0, .int .i64 0, .slice none 0 0] 63))
  obtain ⟨⟨f1, f2, f3, f4, f5, f6⟩, f7⟩ := q6 a1
  go_upto_region 2 with (fail)
  clear f1 f2 f3 f4 f5 f6 f7 a1
  have B0 := bl_alloc (bl_alloc (bl_alloc (Below.refl w.heap.size w) (.cells #[.slice A n c, .int .i64 x.v, .slice x.A x.n x.c, .int .i64 x.v', .slice x.A' x.n' x.c', .bool b] 65)) (.cells #[.int .i64 0, .slice none 0 0, .int .i64 0, .slice none 0 0] 63)) (.cells #[.int .i64 x.v, .slice x.A x.n x.c, .int .i64 x.v', .slice x.A' x.n' x.c'] 63)
  have a1 : (((w.alloc (.cells #[.slice A n c, .int .i64 x.v, .slice x.A x.n x.c, .int .i64 x.v', .slice x.A' x.n' x.c', .bool b] 65)).alloc (.cells #[.int .i64 0, .slice none 0 0, .int .i64 0, .slice none 0 0] 63)).alloc (.cells #[.int .i64 x.v, .slice x.A x.n x.c, .int .i64 x.v', .slice x.A' x.n' x.c'] 63)).heap[w.heap.size]? = some (.cells #[.slice A n c, .int .i64 x.v, .slice x.A x.n x.c, .int .i64 x.v', .slice x.A' x.n' x.c', .bool b] 65 (0, 0)) := blk_alloc (blk_alloc (blk_at _ rfl) _) _
  have ar : (((w.alloc (.cells #[.slice A n c, .int .i64 x.v, .slice x.A x.n x.c, .int .i64 x.v', .slice x.A' x.n' x.c', .bool b] 65)).alloc (.cells #[.int .i64 0, .slice none 0 0, .int .i64 0, .slice none 0 0] 63)).alloc (.cells #[.int .i64 x.v, .slice x.A x.n x.c, .int .i64 x.v', .slice x.A' x.n' x.c'] 63)).heap[w.heap.size + 1]? = some (.cells #[.int .i64 0, .slice none 0 0, .int .i64 0, .slice none 0 0] 63 (0, 0)) := blk_alloc (blk_at _ (by simp)) _
  have ao : (((w.alloc (.cells #[.slice A n c, .int .i64 x.v, .slice x.A x.n x.c, .int .i64 x.v', .slice x.A' x.n' x.c', .bool b] 65)).alloc (.cells #[.int .i64 0, .slice none 0 0, .int .i64 0, .slice none 0 0] 63)).alloc (.cells #[.int .i64 x.v, .slice x.A x.n x.c, .int .i64 x.v', .slice x.A' x.n' x.c'] 63)).heap[w.heap.size + 1 + 1]? = some (.cells #[.int .i64 x.v, .slice x.A x.n x.c, .int .i64 x.v', .slice x.A' x.n' x.c'] 63 (0, 0)) := blk_at _ (by simp)
  have ho : RatV (((w.alloc (.cells #[.slice A n c, .int .i64 x.v, .slice x.A x.n x.c, .int .i64 x.v', .slice x.A' x.n' x.c', .bool b] 65)).alloc (.cells #[.int .i64 0, .slice none 0 0, .int .i64 0, .slice none 0 0] 63)).alloc (.cells #[.int .i64 x.v, .slice x.A x.n x.c, .int .i64 x.v', .slice x.A' x.n' x.c'] 63)) x.v x.A x.n x.c x.v' x.A' x.n' x.c' r.2 := hx.below B0
  generalize ((w.alloc (.cells #[.slice A n c, .int .i64 x.v, .slice x.A x.n x.c, .int .i64 x.v', .slice x.A' x.n' x.c', .bool b] 65)).alloc (.cells #[.int .i64 0, .slice none 0 0, .int .i64 0, .slice none 0 0] 63)).alloc (.cells #[.int .i64 x.v, .slice x.A x.n x.c, .int .i64 x.v', .slice x.A' x.n' x.c'] 63) = W3 at *
  have f1 := (q6 a1).1.1
  go_wp2_with fail
  clear f1 a1
  go_loopw [13] (fun i wr => ∃ (kk : Nat) (o : RC), kk ≤ n ∧ i = .int .i64 kk ∧ wr.heap[w.heap.size + 1 + 1]? = some (.cells #[.int .i64 o.v, .slice o.A o.n o.c, .int .i64 o.v', .slice o.A' o.n' o.c'] 63 (0, 0)) ∧ RatV wr o.v o.A o.n o.c o.v' o.A' o.n' o.c' (valK r X kk) ∧ wr.heap[w.heap.size + 1]? = some (.cells #[.int .i64 0, .slice none 0 0, .int .i64 0, .slice none 0 0] 63 (0, 0)) ∧ Below w.heap.size w wr) (fun i _ => n - (intOf i).toNat)
  case atStart => exact ⟨0, x, Nat.zero_le _, rfl, ao, ho, ar, B0⟩
  case round =>
    clear ao ho ar B0
    obtain ⟨kk, o, hkk, rfl, ao, ho, ar, B0⟩ := hrel
    by_cases hlt : kk < n
    · obtain ⟨g, off, rfl, hg, hc⟩ := (hq.below B0).2.2.1 (by omega)
      obtain ⟨z, ⟨p1, p2, p3, p4⟩, hz0⟩ := hc kk hlt
      obtain ⟨gx, ox, rfl, lgx, hcx⟩ := (h'.below B0).2.2.1 (by omega)
      obtain ⟨y, ay, hy0⟩ := hcx kk hlt
      have hz : RatV wr z.v z.A z.n z.c z.v' z.A' z.n' z.c' (r.1.getD kk 0) := hz0
      have hy : RatV wr y.v y.A y.n y.c y.v' y.A' y.n' y.c' (X.getD kk 0) := hy0
      have HV := Lib.hid (show valK r X (kk + 1) = valK r X kk + r.1.getD kk 0 * X.getD kk 0 from rfl)
      have HOQ := Lib.hid (HV0.out kk hkk)
      have HMQ := Lib.hid (HM0.out kk)
      have HC := Lib.hid (HC0.out kk)
      have HXQ := Lib.hid (HX0.out kk)
      clear hc hcx hz0 hy0 hq h'
      generalize r.1.getD kk 0 = cq at *
      generalize X.getD kk 0 = xq at *
      generalize valK r X kk = oq at *
      have hk0 : (0 : Int) ≤ (kk : Int) := by omega
      have hkn : (kk : Int) < (n : Int) := by omega
      go_upto_region 5 with (fail)
      have az : (wr.alloc (.cells #[.int .i64 z.v, .slice z.A z.n z.c, .int .i64 z.v', .slice z.A' z.n' z.c'] 63)).heap[wr.heap.size]? = some (.cells #[.int .i64 z.v, .slice z.A z.n z.c, .int .i64 z.v', .slice z.A' z.n' z.c'] 63 (0, 0)) := blk_at _ rfl
      replace ao := blk_alloc ao (.cells #[.int .i64 z.v, .slice z.A z.n z.c, .int .i64 z.v', .slice z.A' z.n' z.c'] 63)
      replace ar := blk_alloc ar (.cells #[.int .i64 z.v, .slice z.A z.n z.c, .int .i64 z.v', .slice z.A' z.n' z.c'] 63)
      replace ho := RatV.al ho (.cells #[.int .i64 z.v, .slice z.A z.n z.c, .int .i64 z.v', .slice z.A' z.n' z.c'] 63)
      replace hz := RatV.al hz (.cells #[.int .i64 z.v, .slice z.A z.n z.c, .int .i64 z.v', .slice z.A' z.n' z.c'] 63)
      replace hy := RatV.al hy (.cells #[.int .i64 z.v, .slice z.A z.n z.c, .int .i64 z.v', .slice z.A' z.n' z.c'] 63)
      replace ay := At4.al ay lgx (.cells #[.int .i64 z.v, .slice z.A z.n z.c, .int .i64 z.v', .slice z.A' z.n' z.c'] 63)
      replace lgx : gx < (wr.alloc (.cells #[.int .i64 z.v, .slice z.A z.n z.c, .int .i64 z.v', .slice z.A' z.n' z.c'] 63)).heap.size := by simp; omega
      replace B0 := bl_alloc B0 (.cells #[.int .i64 z.v, .slice z.A z.n z.c, .int .i64 z.v', .slice z.A' z.n' z.c'] 63)
      clear p1 p2 p3 p4 hg
      have lo := blk_lt ao
      generalize wr.heap.size = g7 at *
      generalize wr.alloc (.cells #[.int .i64 z.v, .slice z.A z.n z.c, .int .i64 z.v', .slice z.A' z.n' z.c'] 63) = W4 at *
      obtain ⟨⟨f1, f2, f3, f4⟩, f5⟩ := bx4 az
      go_wp2_with fail
      refine (rsign_calls z.v z.A z.n z.c z.v' z.A' z.n' z.c' cq _ hz).mono ?_
      rintro e w5 ⟨rfl, hB5⟩
      replace az := blk_below az hB5
      replace ao := blk_below ao hB5
      replace ar := blk_below ar hB5
      replace ay := At4.below ay lgx hB5
      replace lgx : gx < w5.heap.size := Nat.lt_of_lt_of_le lgx hB5.size
      replace ho := RatV.below ho hB5
      replace hz := RatV.below hz hB5
      replace hy := RatV.below hy hB5
      replace B0 := bl_then B0 hB5
      clear f1 f2 f3 f4 f5 hB5
      by_cases hc0 : cq = 0
      · have hs := (num_sign_zero _).2 hc0
        rw [hs]
        have E := Lib.hid (show oq + cq * xq = oq by rw [hc0]; grind)
        rw [E.out] at HV
        clear hs hc0
        go_wp2
        go_roundw
        case rel => exact ⟨kk + 1, o, hlt, by go_num, ao, by rw [HV.out]; exact ho, ar, B0⟩
        case measure => simp [intOf]; omega
      · have hs : (cq.num.sign != 0) = true := by
          have : ¬ cq.num.sign = 0 := fun h => hc0 ((num_sign_zero _).1 h)
          simpa using this
        generalize cq.num.sign = sg at *
        clear hc0
        go_upto_region 6 with (fail)
        have ao_0 := blk_drew ao
        have az_0 := blk_drew az
        have ay_0 := At4.dr ay
        have hS0 : w5.drew.cell? ⟨w.heap.size + 1 + 1, 0, none⟩ = some (Value.int .i64 o.v) ∧ w5.drew.cell? ⟨w.heap.size + 1 + 1, 1, none⟩ = some (Value.slice o.A o.n o.c) ∧ w5.drew.cell? ⟨w.heap.size + 1 + 1, 2, none⟩ = some (Value.int .i64 o.v') ∧ w5.drew.cell? ⟨w.heap.size + 1 + 1, 3, none⟩ = some (Value.slice o.A' o.n' o.c') ∧ w5.drew.cell? ⟨g7, 0, none⟩ = some (Value.int .i64 z.v) ∧ w5.drew.cell? ⟨g7, 1, none⟩ = some (Value.slice z.A z.n z.c) ∧ w5.drew.cell? ⟨g7, 2, none⟩ = some (Value.int .i64 z.v') ∧ w5.drew.cell? ⟨g7, 3, none⟩ = some (Value.slice z.A' z.n' z.c') ∧ w5.drew.cell? ⟨gx, ox + kk * 4, none⟩ = some (Value.int .i64 y.v) ∧ w5.drew.cell? ⟨gx, ox + kk * 4 + 1, none⟩ = some (Value.slice y.A y.n y.c) ∧ w5.drew.cell? ⟨gx, ox + kk * 4 + 2, none⟩ = some (Value.int .i64 y.v') ∧ w5.drew.cell? ⟨gx, ox + kk * 4 + 3, none⟩ = some (Value.slice y.A' y.n' y.c') := qj4 (qx4 (t := 63) ao_0) (qj4 (qx4 (t := 63) az_0) (at4c ay_0))
        refine wp_region_T (n := 8) (fun W => W.cell? ⟨w.heap.size + 1 + 1, 0, none⟩ = some (Value.int .i64 o.v) ∧ W.cell? ⟨w.heap.size + 1 + 1, 1, none⟩ = some (Value.slice o.A o.n o.c) ∧ W.cell? ⟨w.heap.size + 1 + 1, 2, none⟩ = some (Value.int .i64 o.v') ∧ W.cell? ⟨w.heap.size + 1 + 1, 3, none⟩ = some (Value.slice o.A' o.n' o.c') ∧ W.cell? ⟨g7, 0, none⟩ = some (Value.int .i64 z.v) ∧ W.cell? ⟨g7, 1, none⟩ = some (Value.slice z.A z.n z.c) ∧ W.cell? ⟨g7, 2, none⟩ = some (Value.int .i64 z.v') ∧ W.cell? ⟨g7, 3, none⟩ = some (Value.slice z.A' z.n' z.c') ∧ W.cell? ⟨gx, ox + kk * 4, none⟩ = some (Value.int .i64 y.v) ∧ W.cell? ⟨gx, ox + kk * 4 + 1, none⟩ = some (Value.slice y.A y.n y.c) ∧ W.cell? ⟨gx, ox + kk * 4 + 2, none⟩ = some (Value.int .i64 y.v') ∧ W.cell? ⟨gx, ox + kk * 4 + 3, none⟩ = some (Value.slice y.A' y.n' y.c')) (by kernel_rfl) ?_
        refine wpT_take (n := 8) (i := 0) (v := ?_) (by decide) (by kernel_rfl) rfl (by kernel_rfl) (by kernel_rfl) (by kernel_rfl) (fun _ _ _ h => h) (Or.inl ⟨by rfl, ?_⟩) hS0 ?_
        rotate_left
        · intro w' hSw
          (try dsimp only at hSw)
          go_simp
          (try with_reducible rfl)
        try simp only [Act.put, List.setIfInBounds_toArray, List.set_cons_zero, List.set_cons_succ]
        refine wpT_take (n := 8) (i := 1) (v := ?_) (by decide) (by kernel_rfl) rfl (by kernel_rfl) (by kernel_rfl) (by kernel_rfl) (fun _ _ _ h => h) (Or.inl ⟨by rfl, ?_⟩) hS0 ?_
        rotate_left
        · intro w' hSw
          (try dsimp only at hSw)
          go_simp
          (try with_reducible rfl)
        try simp only [Act.put, List.setIfInBounds_toArray, List.set_cons_zero, List.set_cons_succ]
        refine wpT_take (n := 8) (i := 2) (v := ?_) (by decide) (by kernel_rfl) rfl (by kernel_rfl) (by kernel_rfl) (by kernel_rfl) (fun _ _ _ h => h) (Or.inl ⟨by rfl, ?_⟩) hS0 ?_
        rotate_left
        · intro w' hSw
          (try dsimp only at hSw)
          go_simp
          (try with_reducible rfl)
        try simp only [Act.put, List.setIfInBounds_toArray, List.set_cons_zero, List.set_cons_succ]
        refine wpT_take (n := 8) (i := 3) (v := ?_) (by decide) (by kernel_rfl) rfl (by kernel_rfl) (by kernel_rfl) (by kernel_rfl) (fun _ _ _ h => h) (Or.inl ⟨by rfl, ?_⟩) hS0 ?_
        rotate_left
        · intro w' hSw
          (try dsimp only at hSw)
          go_simp
          (try with_reducible rfl)
        try simp only [Act.put, List.setIfInBounds_toArray, List.set_cons_zero, List.set_cons_succ]
        refine wpT_take (n := 8) (i := 4) (v := ?_) (by decide) (by kernel_rfl) rfl (by kernel_rfl) (by kernel_rfl) (by kernel_rfl) (fun _ _ _ h => h) (Or.inl ⟨by rfl, ?_⟩) hS0 ?_
        rotate_left
        · intro w' hSw
          (try dsimp only at hSw)
          go_simp
          (try with_reducible rfl)
        try simp only [Act.put, List.setIfInBounds_toArray, List.set_cons_zero, List.set_cons_succ]
        refine wpT_take (n := 8) (i := 5) (v := ?_) (by decide) (by kernel_rfl) rfl (by kernel_rfl) (by kernel_rfl) (by kernel_rfl) (fun _ _ _ h => h) (Or.inl ⟨by rfl, ?_⟩) hS0 ?_
        rotate_left
        · intro w' hSw
          (try dsimp only at hSw)
          go_simp
          (try with_reducible rfl)
        try simp only [Act.put, List.setIfInBounds_toArray, List.set_cons_zero, List.set_cons_succ]
        refine wpT_one (n := 8) (i := 6) (by kernel_rfl) rfl (fun K9 hK9 => ?_)
        go_simp
        refine (rmul_calls z.v z.A z.n z.c z.v' z.A' z.n' z.c' cq y.v y.A y.n y.c y.v' y.A' y.n' y.c' xq _ (RatV.dr hz) (RatV.dr hy) KK HC.out HXQ.out (by omega)).mono ?_
        rintro e y1 ⟨⟨v2, A2, n2, c2, v2', A2', n2', c2', rfl, t2⟩, hB1⟩
        have H1 : Below w5.heap.size w5 y1 := bl_then (bl_drew (Below.refl _ _)) hB1
        have ao_1 := blk_below ao H1
        have az_1 := blk_below az H1
        have ay_1 := At4.below ay lgx H1
        have hS1 : y1.cell? ⟨w.heap.size + 1 + 1, 0, none⟩ = some (Value.int .i64 o.v) ∧ y1.cell? ⟨w.heap.size + 1 + 1, 1, none⟩ = some (Value.slice o.A o.n o.c) ∧ y1.cell? ⟨w.heap.size + 1 + 1, 2, none⟩ = some (Value.int .i64 o.v') ∧ y1.cell? ⟨w.heap.size + 1 + 1, 3, none⟩ = some (Value.slice o.A' o.n' o.c') ∧ y1.cell? ⟨g7, 0, none⟩ = some (Value.int .i64 z.v) ∧ y1.cell? ⟨g7, 1, none⟩ = some (Value.slice z.A z.n z.c) ∧ y1.cell? ⟨g7, 2, none⟩ = some (Value.int .i64 z.v') ∧ y1.cell? ⟨g7, 3, none⟩ = some (Value.slice z.A' z.n' z.c') ∧ y1.cell? ⟨gx, ox + kk * 4, none⟩ = some (Value.int .i64 y.v) ∧ y1.cell? ⟨gx, ox + kk * 4 + 1, none⟩ = some (Value.slice y.A y.n y.c) ∧ y1.cell? ⟨gx, ox + kk * 4 + 2, none⟩ = some (Value.int .i64 y.v') ∧ y1.cell? ⟨gx, ox + kk * 4 + 3, none⟩ = some (Value.slice y.A' y.n' y.c') := qj4 (qx4 (t := 63) ao_1) (qj4 (qx4 (t := 63) az_1) (at4c ay_1))
        refine hK9.out _ _ (fun _ => hS1) (fun _ => ?_)
        clear hK9 K9
        try simp only [Act.put, List.setIfInBounds_toArray, List.set_cons_zero, List.set_cons_succ]
        refine wpT_one (n := 8) (i := 7) (by kernel_rfl) rfl (fun K9 hK9 => ?_)
        go_simp
        refine (radd_calls o.v o.A o.n o.c o.v' o.A' o.n' o.c' oq v2 A2 n2 c2 v2' A2' n2' c2' (cq * xq) _ (RatV.below ho H1) t2 KK HOQ.out HMQ.out (by omega)).mono ?_
        rintro e y2 ⟨⟨v3, A3, n3, c3, v3', A3', n3', c3', rfl, t3⟩, hB2⟩
        have H2 := bl_then H1 hB2
        have ao_2 := blk_below ao H2
        have az_2 := blk_below az H2
        have ay_2 := At4.below ay lgx H2
        have hS2 : y2.cell? ⟨w.heap.size + 1 + 1, 0, none⟩ = some (Value.int .i64 o.v) ∧ y2.cell? ⟨w.heap.size + 1 + 1, 1, none⟩ = some (Value.slice o.A o.n o.c) ∧ y2.cell? ⟨w.heap.size + 1 + 1, 2, none⟩ = some (Value.int .i64 o.v') ∧ y2.cell? ⟨w.heap.size + 1 + 1, 3, none⟩ = some (Value.slice o.A' o.n' o.c') ∧ y2.cell? ⟨g7, 0, none⟩ = some (Value.int .i64 z.v) ∧ y2.cell? ⟨g7, 1, none⟩ = some (Value.slice z.A z.n z.c) ∧ y2.cell? ⟨g7, 2, none⟩ = some (Value.int .i64 z.v') ∧ y2.cell? ⟨g7, 3, none⟩ = some (Value.slice z.A' z.n' z.c') ∧ y2.cell? ⟨gx, ox + kk * 4, none⟩ = some (Value.int .i64 y.v) ∧ y2.cell? ⟨gx, ox + kk * 4 + 1, none⟩ = some (Value.slice y.A y.n y.c) ∧ y2.cell? ⟨gx, ox + kk * 4 + 2, none⟩ = some (Value.int .i64 y.v') ∧ y2.cell? ⟨gx, ox + kk * 4 + 3, none⟩ = some (Value.slice y.A' y.n' y.c') := qj4 (qx4 (t := 63) ao_2) (qj4 (qx4 (t := 63) az_2) (at4c ay_2))
        have FF := bx4 ao_2
        obtain ⟨⟨k1, k2, k3, k4⟩, k5⟩ := FF
        refine hK9.out _ _ (fun _ => hS2) (fun _ => ?_)
        clear hK9 K9
        try simp only [Act.put, List.setIfInBounds_toArray, List.set_cons_zero, List.set_cons_succ]
        refine wpT_one (n := 8) (i := 8) (by kernel_rfl) rfl (fun K9 hK9 => ?_)
        go_simp
        refine hK9.out _ _ (fun h => absurd rfl h) (fun _ => ?_)
        clear hK9 K9
        try simp only [Act.put, List.setIfInBounds_toArray, List.set_cons_zero, List.set_cons_succ]
        refine wpT_done (by kernel_rfl) ?_ _
        have V1 := RV.st4 (i1 := 0) (i2 := 1) (i3 := 2) (i4 := 3) t3 ao_2 (.int .i64 v3) (.slice A3 n3 c3) (.int .i64 v3') (.slice A3' n3' c3')
        have V2 := q4_set ao_2 (.int .i64 v3) (.slice A3 n3 c3) (.int .i64 v3') (.slice A3' n3' c3')
        have V3 := q4_far (i1 := 0) (i2 := 1) (i3 := 2) (i4 := 3) (blk_below ar H2) (show w.heap.size + 1 ≠ w.heap.size + 1 + 1 by omega) (.int .i64 v3) (.slice A3 n3 c3) (.int .i64 v3') (.slice A3' n3' c3')
        have V4 := q4_bl (i1 := 0) (i2 := 1) (i3 := 2) (i4 := 3) (bl_then B0 H2) (show w.heap.size ≤ w.heap.size + 1 + 1 by omega) (.int .i64 v3) (.slice A3 n3 c3) (.int .i64 v3') (.slice A3' n3' c3')
        go_wp2
        go_roundw
        case rel => exact ⟨kk + 1, ⟨v3, A3, n3, c3, v3', A3', n3', c3'⟩, hlt, by go_num, V2, by rw [HV.out]; exact V1, V3, V4⟩
        case measure => simp [intOf]; omega
    · have hkn : n = kk := by omega
      subst hkn
      obtain ⟨⟨f1, f2, f3, f4⟩, f5⟩ := bx4 ao
      obtain ⟨⟨m1, m2, m3, m4⟩, m5⟩ := bx4 ar
      have hE := Lib.hid (putRat ho ar B0 (by omega))
      go_wp2
      refine bodyPost_ret (results_cell_row rfl _ _ (w.heap.size + 1) 63 #[.int .i64 o.v, .slice o.A o.n o.c, .int .i64 o.v', .slice o.A' o.n' o.c'] (0, 0) _ rfl hE.out.2.2 Try.underlying63 rfl (by kernel_rfl)) rfl ?_
      exact ⟨⟨_, _, _, _, _, _, _, _, rfl, hE.out.1⟩, hE.out.2.1⟩
end Go.Proofs.Ytjmbpeniibdnoaa

namespace Go.Proofs.Ytjmbpeniibdnoaa
open Go.RowKit

/-- What lin.Value hands back: top, low, error. -/
def valQ (n : Int) (f : Fm) (x : List (Int × Int)) : Rat := valK (rowF f) (x.map ratP) n.toNat
def valT (n : Int) (f : Fm) (x : List (Int × Int)) : Int := if OkF n f ∧ OkX n x then outT (valQ n f x) else 0
def valL (n : Int) (f : Fm) (x : List (Int × Int)) : Int := if OkF n f ∧ OkX n x then outL (valQ n f x) else 0
def valE (n : Int) (f : Fm) (x : List (Int × Int)) : Int := if OkF n f ∧ OkX n x then outE (valQ n f x) else 1
/-- What lin.Primitive hands back. -/
def prmF (n : Int) (f : Fm) : Fm := if OkF n f then outF (prm (rowF f)) else ([], 0)
def prmE (n : Int) (f : Fm) : Int := if OkF n f then 0 else 1
theorem ratP_sz {x : Int × Int} (h : OkN x.1 x.2) : SzR 61 (ratP x) := by
  obtain ⟨h1, h2, h3, h4, _⟩ := h
  exact qsz_divInt (by omega) (by unfold Sz; exact Nat.lt_of_le_of_lt (show x.1.natAbs ≤ 1152921504606846976 by omega) (by decide)) (by unfold Sz; exact Nat.lt_of_le_of_lt (show x.2.natAbs ≤ 1152921504606846976 by omega) (by decide))
theorem SzW.mono {k l : Nat} {r : Rw} (h : SzW k r) (e : k ≤ l) : SzW l r := ⟨fun j => (h.1 j).mono e, h.2.mono e⟩
set_option maxHeartbeats 40000000
set_option maxRecDepth 100000
theorem lvalue_calls (n : Int) (A : Option Addr) (m c : Nat) (f : Fm) (A' : Option Addr) (m' c' : Nat) (x : List (Int × Int)) (w : World) (h : RdC w A m f.1) (h' : RdN w A' m' x) (hf : I64F f) (hx : I64s x) :
    Calls Try.prog 10 #[.int .i64 n, .agg #[.slice A m c, .int .i64 f.2], .slice A' m' c'] w fun e w' => NumR e (valT n f x) (valL n f x) (valE n f x) ∧ Below w.heap.size w w' := by
  have LF := Lib.hid h.1
  have LX := Lib.hid h'.1
  have NO : ¬ (OkF n f ∧ OkX n x) → valT n f x = 0 ∧ valL n f x = 0 ∧ valE n f x = 1 := fun hh => ⟨if_neg hh, if_neg hh, if_neg hh⟩
  have YES : OkF n f → OkX n x → valT n f x = outT (valQ n f x) ∧ valL n f x = outL (valQ n f x) ∧ valE n f x = outE (valQ n f x) := fun h1 h2 => ⟨if_pos ⟨h1, h2⟩, if_pos ⟨h1, h2⟩, if_pos ⟨h1, h2⟩⟩
  generalize valT n f x = vT at *
  generalize valL n f x = vL at *
  generalize valE n f x = vE at *
  go_enter Try.func10, Try.ntmps10
  go_wp2_with fail
  have a1 : ((w.alloc (.cells #[.slice A m c, .int .i64 f.2] 30)).alloc (.cells #[.int .i64 0, .int .i64 0] 36)).heap[w.heap.size]? = some (.cells #[.slice A m c, .int .i64 f.2] 30 (0, 0)) := blk_alloc (blk_at _ rfl) _
  have a2 : ((w.alloc (.cells #[.slice A m c, .int .i64 f.2] 30)).alloc (.cells #[.int .i64 0, .int .i64 0] 36)).heap[w.heap.size + 1]? = some (.cells #[.int .i64 0, .int .i64 0] 36 (0, 0)) := blk_at _ (by simp)
  have B0 := bl_alloc (bl_alloc (Below.refl w.heap.size w) (.cells #[.slice A m c, .int .i64 f.2] 30)) (.cells #[.int .i64 0, .int .i64 0] 36)
  generalize (w.alloc (.cells #[.slice A m c, .int .i64 f.2] 30)).alloc (.cells #[.int .i64 0, .int .i64 0] 36) = W0 at *
  refine (validform_calls n A m c f _ (h.below B0)).mono ?_
  rintro e w1 ⟨he, hB1⟩
  replace a1 := blk_below a1 hB1
  replace a2 := blk_below a2 hB1
  replace B0 := bl_then B0 hB1
  clear hB1
  by_cases hof : OkF n f
  · rw [decide_eq_true hof] at he
    subst he
    go_wp2_with fail
    refine (validpoint_calls n A' m' c' x _ (h'.below B0) hx).mono ?_
    rintro e w2 ⟨he, hB1⟩
    replace a1 := blk_below a1 hB1
    replace a2 := blk_below a2 hB1
    replace B0 := bl_then B0 hB1
    clear hB1
    by_cases hox : OkX n x
    · rw [decide_eq_true hox] at he
      subst he
      obtain ⟨nn, rfl⟩ : ∃ nn : Nat, n = nn := ⟨n.toNat, by have := hof.1.1; omega⟩
      have hn8 : nn ≤ 8 := by have := hof.1.2; omega
      have hmm : m = nn := by have h1 := hof.2.1; have h2 := LF.out; omega
      have hmm' : m' = nn := by have h1 := hox.2.1; have h2 := LX.out; omega
      subst hmm hmm'
      obtain ⟨rfl, rfl, rfl⟩ := YES hof hox
      have HOF := Lib.hid hof
      have HOX := Lib.hid hox
      have HQ : Hid (valQ (m' : Int) f x = valK (rowF f) (x.map ratP) m') := Lib.hid (by unfold valQ; rw [Int.toNat_natCast])
      clear YES NO hof hox
      have g1 := bx2 a1
      obtain ⟨g1, g2, g3, g4⟩ := g1
      go_wp2_with fail
      refine (lrow_calls A m' c f _ (h.below B0) hf (by omega)).mono ?_
      rintro e w3 ⟨⟨A3, n3, c3, x3, rfl, t3⟩, hB1⟩
      replace a2 := blk_below a2 hB1
      replace B0 := bl_then B0 hB1
      clear hB1 g1 g2 g3 g4 a1
      go_wp2_with fail
      refine (lrats_calls A' m' c' x _ (h'.below B0) hx HOX.out.2.2 (by omega)).mono ?_
      rintro e w4 ⟨⟨A4, c4, rfl, t4⟩, hB1⟩
      replace a2 := blk_below a2 hB1
      replace B0 := bl_then B0 hB1
      replace t3 := t3.below hB1
      clear hB1
      have hn3 : n3 = m' := by rw [← t3.1.1, ← LF.out]; simp [rowF]
      subst hn3
      go_wp2_with fail
      refine (rowval_calls A3 n3 c3 x3 false (rowF f) A4 c4 (x.map ratP) _ t3 t4 hn8 ((rowF_sz HOF.out).mono (by omega)) (fun j => ?_)).mono ?_
      · rcases Nat.lt_or_ge j n3 with hj | hj
        · rw [getD_map ratP x j (0, 0) 0 (by rw [LX.out]; exact hj)]
          exact (ratP_sz (HOX.out.2.2 _ (mem_getD (by rw [LX.out]; exact hj)))).mono (by omega)
        · rw [List.getD_eq_getElem?_getD, List.getElem?_eq_none (by rw [List.length_map, LX.out]; exact hj)]
          exact ⟨by show Sz 100 0; unfold Sz; decide, by show Sz 100 1; unfold Sz; decide⟩
      rintro e w5 ⟨⟨v5, A5, n5, c5, v5', A5', n5', c5', rfl, t5⟩, hB1⟩
      replace a2 := blk_below a2 hB1
      replace B0 := bl_then B0 hB1
      rw [← HQ.out] at t5
      clear hB1 t3 t4
      go_wp2_with fail
      refine (out_calls v5 A5 n5 c5 v5' A5' n5' c5' _ _ t5).mono ?_
      rintro e w6 ⟨he, hB1⟩
      unfold NumR at he
      subst he
      replace a2 := blk_below a2 hB1
      replace B0 := bl_then B0 hB1
      clear hB1 t5
      obtain ⟨g1, g2, g3, g4⟩ := bx2 a2
      go_wp2
      refine bodyPost_ret (results_cell_tmp_row rfl _ _ (w.heap.size + 1) 36 #[.int .i64 (outT (valQ (n3 : Int) f x)), .int .i64 (outL (valQ (n3 : Int) f x))] (0, 0) _ _ rfl (blk_set2 a2 _ _) Try.underlying36 rfl (by kernel_rfl) rfl) rfl ?_
      exact ⟨rfl, bl_set (bl_set B0 (by simp) _) (by simp) _⟩
    · rw [decide_eq_false hox] at he
      subst he
      obtain ⟨rfl, rfl, rfl⟩ := NO fun hh => hox hh.2
      obtain ⟨g1, g2, g3, g4⟩ := bx2 a2
      clear YES NO hof hox
      go_wp2
      refine bodyPost_ret (results_cell_tmp_row rfl _ _ (w.heap.size + 1) 36 #[.int .i64 0, .int .i64 0] (0, 0) _ _ rfl (blk_set2 a2 _ _) Try.underlying36 rfl (by kernel_rfl) rfl) rfl ?_
      exact ⟨rfl, bl_set (bl_set B0 (by simp) _) (by simp) _⟩
  · rw [decide_eq_false hof] at he
    subst he
    obtain ⟨rfl, rfl, rfl⟩ := NO fun hh => hof hh.1
    obtain ⟨g1, g2, g3, g4⟩ := bx2 a2
    clear YES NO hof
    go_wp2
    refine bodyPost_ret (results_cell_tmp_row rfl _ _ (w.heap.size + 1) 36 #[.int .i64 0, .int .i64 0] (0, 0) _ _ rfl (blk_set2 a2 _ _) Try.underlying36 rfl (by kernel_rfl) rfl) rfl ?_
    exact ⟨rfl, bl_set (bl_set B0 (by simp) _) (by simp) _⟩
theorem lprim_calls (n : Int) (A : Option Addr) (m c : Nat) (f : Fm) (w : World) (h : RdC w A m f.1) (hf : I64F f) :
    Calls Try.prog 8 #[.int .i64 n, .agg #[.slice A m c, .int .i64 f.2]] w fun e w' => (∃ v, e = .returned (.tuple #[v, .int .i64 (prmE n f)]) ∧ FmB w.heap.size v w' (prmF n f)) ∧ Below w.heap.size w w' := by
  have LF := Lib.hid h.1
  have NO : ¬ OkF n f → prmE n f = 1 ∧ prmF n f = ([], 0) := fun hh => ⟨if_neg hh, if_neg hh⟩
  have YES : OkF n f → prmE n f = 0 ∧ prmF n f = outF (prm (rowF f)) := fun h1 => ⟨if_pos h1, if_pos h1⟩
  generalize prmE n f = vE at *
  generalize prmF n f = vF at *
  go_enter Try.func8, Try.ntmps8
  go_wp2_with fail
  have a1 : ((w.alloc (.cells #[.slice A m c, .int .i64 f.2] 30)).alloc (.cells #[.slice none 0 0, .int .i64 0] 30)).heap[w.heap.size]? = some (.cells #[.slice A m c, .int .i64 f.2] 30 (0, 0)) := blk_alloc (blk_at _ rfl) _
  have a2 : ((w.alloc (.cells #[.slice A m c, .int .i64 f.2] 30)).alloc (.cells #[.slice none 0 0, .int .i64 0] 30)).heap[w.heap.size + 1]? = some (.cells #[.slice none 0 0, .int .i64 0] 30 (0, 0)) := blk_at _ (by simp)
  have B0 := bl_alloc (bl_alloc (Below.refl w.heap.size w) (.cells #[.slice A m c, .int .i64 f.2] 30)) (.cells #[.slice none 0 0, .int .i64 0] 30)
  generalize (w.alloc (.cells #[.slice A m c, .int .i64 f.2] 30)).alloc (.cells #[.slice none 0 0, .int .i64 0] 30) = W0 at *
  refine (validform_calls n A m c f _ (h.below B0)).mono ?_
  rintro e w1 ⟨he, hB1⟩
  replace a1 := blk_below a1 hB1
  replace a2 := blk_below a2 hB1
  replace B0 := bl_then B0 hB1
  clear hB1
  by_cases hof : OkF n f
  · rw [decide_eq_true hof] at he
    subst he
    have hm8 : m ≤ 8 := by have h1 := hof.2.1; have h2 := LF.out; have h3 := hof.1.2; omega
    obtain ⟨rfl, rfl⟩ := YES hof
    have HOF := Lib.hid hof
    clear YES NO hof
    obtain ⟨g1, g2, g3, g4⟩ := bx2 a1
    go_wp2_with fail
    refine (lrow_calls A m c f _ (h.below B0) hf (by omega)).mono ?_
    rintro e w3 ⟨⟨A3, n3, c3, x3, rfl, t3⟩, hB1⟩
    replace a2 := blk_below a2 hB1
    replace B0 := bl_then B0 hB1
    clear hB1 g1 g2 g3 g4 a1
    have hn3 : n3 = m := by rw [← t3.1.1, ← LF.out]; simp [rowF]
    subst hn3
    go_wp2_with fail
    refine (prim_calls A3 n3 c3 x3 false (rowF f) _ t3 (by omega) 61 (rowF_sz HOF.out) (by omega)).mono ?_
    rintro e w4 ⟨⟨A4, n4, c4, x4, rfl, t4⟩, hB1⟩
    replace a2 := blk_below a2 hB1
    replace B0 := bl_then B0 hB1
    clear hB1 t3
    go_wp2_with fail
    refine (lout_calls A4 n4 c4 x4 false _ _ t4).mono ?_
    rintro e w5 ⟨⟨v5, rfl, A5, n5, c5, rfl, t5, u5⟩, hB1⟩
    replace u5 := u5.mono B0.size
    replace a2 := blk_below a2 hB1
    replace B0 := bl_then B0 hB1
    clear hB1 t4
    have a3 := blk_alloc a2 (.cells #[.slice A5 n5 c5, .int .i64 (outF (prm (rowF f))).2] 30)
    have ha2 := blk_lt a2
    obtain ⟨g1, g2, g3, g4⟩ := bx2 a3
    have B1 := bl_alloc B0 (.cells #[.slice A5 n5 c5, .int .i64 (outF (prm (rowF f))).2] 30)
    have t6 : RdI ((((w5.alloc (.cells #[.slice A5 n5 c5, .int .i64 (outF (prm (rowF f))).2] 30)).setCell ⟨w.heap.size + 1, 0, none⟩ (.slice A5 n5 c5)).setCell ⟨w.heap.size + 1, 1, none⟩ (.int .i64 (outF (prm (rowF f))).2))) 3 .i64 A5 n5 (outF (prm (rowF f))).1 := t5.kp ((((Kp.refl _ _).alloc _).set (p := ⟨w.heap.size + 1, 0, none⟩) a3 (by decide) _).set (p := ⟨w.heap.size + 1, 1, none⟩) (blk_set a3 0 _) (by decide) _)
    have u6 : Wi ((((w5.alloc (.cells #[.slice A5 n5 c5, .int .i64 (outF (prm (rowF f))).2] 30)).setCell ⟨w.heap.size + 1, 0, none⟩ (.slice A5 n5 c5)).setCell ⟨w.heap.size + 1, 1, none⟩ (.int .i64 (outF (prm (rowF f))).2))) w.heap.size A5 n5 := u5.kp ((((Kp.refl _ _).alloc _).set (p := ⟨w.heap.size + 1, 0, none⟩) a3 (by decide) _).set (p := ⟨w.heap.size + 1, 1, none⟩) (blk_set a3 0 _) (by decide) _)
    have V1 := blk_set2 a3 (.slice A5 n5 c5) (.int .i64 (outF (prm (rowF f))).2)
    have V2 := bl_set (bl_set B1 (p := ⟨w.heap.size + 1, 0, none⟩) (by simp) (.slice A5 n5 c5)) (p := ⟨w.heap.size + 1, 1, none⟩) (by simp) (.int .i64 (outF (prm (rowF f))).2)
    rw [World.setCell_alloc_past _ _ _ _ ha2, World.setCell_alloc_past _ _ _ _ (by simpa using ha2)] at t6 u6 V1 V2
    clear g1 g2 g3 g4
    obtain ⟨g1, g2, g3, g4⟩ := bx2 a2
    go_wp2
    refine bodyPost_ret (results_cell_tmp_row rfl _ _ (w.heap.size + 1) 30 #[.slice A5 n5 c5, .int .i64 (outF (prm (rowF f))).2] (0, 0) _ _ rfl V1 Try.underlying30 rfl (by kernel_rfl) rfl) rfl ?_
    exact ⟨⟨_, rfl, A5, n5, c5, rfl, t6, u6⟩, V2⟩
  · rw [decide_eq_false hof] at he
    subst he
    obtain ⟨rfl, rfl⟩ := NO hof
    obtain ⟨g1, g2, g3, g4⟩ := bx2 a2
    clear YES NO hof
    go_wp2
    refine bodyPost_ret (results_cell_tmp_row rfl _ _ (w.heap.size + 1) 30 #[.slice none 0 0, .int .i64 0] (0, 0) _ _ rfl (blk_set2 a2 _ _) Try.underlying30 rfl (by kernel_rfl) rfl) rfl ?_
    exact ⟨⟨_, rfl, FmB.nil _ _⟩, bl_set (bl_set B0 (by simp) _) (by simp) _⟩
end Go.Proofs.Ytjmbpeniibdnoaa
