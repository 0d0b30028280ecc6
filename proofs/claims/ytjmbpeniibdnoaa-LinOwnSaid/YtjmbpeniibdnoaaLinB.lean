/- Equal forms, equal lists: the comparisons answer true. awake: the examples of the chapter; few. lin: Equal, Same. lin: Equal, alike, Same. lin: Same; LinSolutions: zero. few, of a list of forms. lin: Rank. lin.Combine: what it computes. Results. lin: Combine. -/
import Derived.Test.YtjmbpeniibdnoaaMemA
import Derived.Test.YtjmbpeniibdnoaaLinA
import Derived.Lib.SliceRun
import Derived.Laws.CopyOwn
import Derived.StillTailTactics
set_option linter.unusedVariables false
set_option linter.unusedSimpArgs false
namespace Go.Proofs.Ytjmbpeniibdnoaa
open Go.RowKit

set_option maxHeartbeats 40000000
set_option maxRecDepth 100000
theorem llist_calls (A : Option Addr) (n c : Nat) (A' : Option Addr) (c' : Nat) (xs : List Int) (w : World) (h : RdC w A n xs) (h' : RdC w A' n xs) :
    Calls Try.prog 48 #[.slice A n c, .slice A' n c'] w fun e w' => e = .returned (.bool true) ∧ Below w.heap.size w w' := by
  have hn := h.2.1
  go_enter Try.func48, Try.ntmps48
  go_wp2_with fail
  go_loopw [13] (fun i wr => ∃ k : Nat, k ≤ n ∧ i = .int .i64 k ∧ Below w.heap.size w wr) (fun i _ => n - (intOf i).toNat)
  case atStart => exact ⟨0, Nat.zero_le _, rfl, Below.refl _ _⟩
  case round =>
    obtain ⟨k, hk, rfl, hBw⟩ := hrel
    by_cases hlt : k < n
    · have hr := h.below hBw
      have hr' := h'.below hBw
      obtain ⟨g, off, rfl, hg, hc⟩ := hr.2.2 (by omega)
      obtain ⟨g', off', rfl, hg', hc'⟩ := hr'.2.2 (by omega)
      have c1 := hc k hlt
      have d1 := hc' k hlt
      have hk0 : (0 : Int) ≤ (k : Int) := by omega
      have hkn : (k : Int) < (n : Int) := by omega
      clear hc hr h hc' hr' h'
      generalize xs.getD k 0 = x1 at *
      go_wp2_with fail
      go_region_held3 (fun W => W.cell? ⟨g, off + k, none⟩ = some (Value.int .i64 x1) ∧ W.cell? ⟨g', off' + k, none⟩ = some (Value.int .i64 x1)) (first | exact ⟨c1, d1⟩ | go_keep) (fail)
      all_goals
        go_wp2
        go_roundw
        case rel => exact ⟨k + 1, hlt, by go_num, bl_drew hBw⟩
        case measure => simp [intOf]; omega
    · go_wp2
      go_ret
      exact ⟨rfl, hBw⟩
theorem lnsame_calls (A : Option Addr) (n c : Nat) (A' : Option Addr) (c' : Nat) (xs : List (Int × Int)) (w : World) (h : RdN w A n xs) (h' : RdN w A' n xs) :
    Calls Try.prog 19 #[.slice A n c, .slice A' n c'] w fun e w' => e = .returned (.bool true) ∧ Below w.heap.size w w' := by
  have hn := h.2.1
  go_enter Try.func19, Try.ntmps19
  go_wp2_with fail
  go_loopw [13] (fun i wr => ∃ k : Nat, k ≤ n ∧ i = .int .i64 k ∧ Below w.heap.size w wr) (fun i _ => n - (intOf i).toNat)
  case atStart => exact ⟨0, Nat.zero_le _, rfl, Below.refl _ _⟩
  case round =>
    obtain ⟨k, hk, rfl, hBw⟩ := hrel
    by_cases hlt : k < n
    · have hr := h.below hBw
      have hr' := h'.below hBw
      obtain ⟨g, off, rfl, hg, hc⟩ := hr.2.2 (by omega)
      obtain ⟨g', off', rfl, hg', hc'⟩ := hr'.2.2 (by omega)
      obtain ⟨c1, c2⟩ := hc k hlt
      obtain ⟨d1, d2⟩ := hc' k hlt
      have hk0 : (0 : Int) ≤ (k : Int) := by omega
      have hkn : (k : Int) < (n : Int) := by omega
      clear hc hr h hc' hr' h'
      generalize (xs.getD k (0, 0)).1 = x1 at *
      generalize (xs.getD k (0, 0)).2 = x2 at *
      go_wp2_with fail
      go_region_held3 (fun W => W.cell? ⟨g, off + k * 2, none⟩ = some (Value.int .i64 x1) ∧ W.cell? ⟨g, off + k * 2 + 1, none⟩ = some (Value.int .i64 x2) ∧ W.cell? ⟨g', off' + k * 2, none⟩ = some (Value.int .i64 x1) ∧ W.cell? ⟨g', off' + k * 2 + 1, none⟩ = some (Value.int .i64 x2)) (first | exact ⟨c1, c2, d1, d2⟩ | go_keep) (fail)
      all_goals
        go_wp2
        go_roundw
        case rel => exact ⟨k + 1, hlt, by go_num, bl_drew hBw⟩
        case measure => simp [intOf]; omega
    · go_wp2
      go_ret
      exact ⟨rfl, hBw⟩
theorem lsform_calls (A : Option Addr) (n c : Nat) (A' : Option Addr) (c' : Nat) (f : Fm) (w : World) (h : RdC w A n f.1) (h' : RdC w A' n f.1) :
    Calls Try.prog 20 #[.agg #[.slice A n c, .int .i64 f.2], .agg #[.slice A' n c', .int .i64 f.2]] w fun e w' => e = .returned (.bool true) ∧ Below w.heap.size w w' := by
  go_enter Try.func20, Try.ntmps20
  have a1 : ((w.alloc (.cells #[.slice A n c, .int .i64 f.2] 30)).alloc (.cells #[.slice A' n c', .int .i64 f.2] 30)).heap[w.heap.size]? = some (.cells #[.slice A n c, .int .i64 f.2] 30 (0, 0)) := blk_alloc (blk_at _ rfl) _
  have a2 : ((w.alloc (.cells #[.slice A n c, .int .i64 f.2] 30)).alloc (.cells #[.slice A' n c', .int .i64 f.2] 30)).heap[w.heap.size + 1]? = some (.cells #[.slice A' n c', .int .i64 f.2] 30 (0, 0)) := blk_at _ (by simp)
  have B0 := bl_alloc (bl_alloc (Below.refl w.heap.size w) (.cells #[.slice A n c, .int .i64 f.2] 30)) (.cells #[.slice A' n c', .int .i64 f.2] 30)
  obtain ⟨f1, f2, f3, f4⟩ := bx2 a1
  obtain ⟨g1, g2, g3, g4⟩ := bx2 a2
  go_wp2_with fail
  refine (llist_calls A n c A' c' f.1 _ (h.below B0) (h'.below B0)).mono ?_
  rintro e w1 ⟨rfl, hB1⟩
  have B1 := bl_then B0 hB1
  clear f1 f2 f3 f4 g1 g2 g3 g4 a1 a2 B0 hB1
  go_wp2
  go_ret
  exact ⟨rfl, B1⟩
theorem c4_below {w w' : World} {g o g' o' : Nat} {v1 v2 v3 v4 : Value} (hb : Below w.drew.heap.size w.drew w') (hg : g < w.heap.size) (hg' : g' < w.heap.size) (h1 : w.cell? ⟨g, o, none⟩ = some v1) (h2 : w.cell? ⟨g, o + 1, none⟩ = some v2) (h3 : w.cell? ⟨g', o', none⟩ = some v3) (h4 : w.cell? ⟨g', o' + 1, none⟩ = some v4) :
    w'.cell? ⟨g, o, none⟩ = some v1 ∧ w'.cell? ⟨g, o + 1, none⟩ = some v2 ∧ w'.cell? ⟨g', o', none⟩ = some v3 ∧ w'.cell? ⟨g', o' + 1, none⟩ = some v4 := by
  have k := (cells_below hb).1
  exact ⟨(k _ _ hg).trans h1, (k _ _ hg).trans h2, (k _ _ hg').trans h3, (k _ _ hg').trans h4⟩
theorem lsforms_calls (A : Option Addr) (n c : Nat) (A' : Option Addr) (c' : Nat) (F : List Fm) (w : World) (h : RdF w A n F) (h' : RdF w A' n F) :
    Calls Try.prog 18 #[.slice A n c, .slice A' n c'] w fun e w' => e = .returned (.bool true) ∧ Below w.heap.size w w' := by
  have hn := h.2.1
  go_enter Try.func18, Try.ntmps18
  go_wp2_with fail
  go_loopw [13] (fun i wr => ∃ k : Nat, k ≤ n ∧ i = .int .i64 k ∧ Below w.heap.size w wr) (fun i _ => n - (intOf i).toNat)
  case atStart => exact ⟨0, Nat.zero_le _, rfl, Below.refl _ _⟩
  case round =>
    obtain ⟨k, hk, rfl, hBw⟩ := hrel
    by_cases hlt : k < n
    · have hr := h.below hBw
      have hr' := h'.below hBw
      obtain ⟨g, off, rfl, hg, hc⟩ := hr.2.2 (by omega)
      obtain ⟨g', off', rfl, hg', hc'⟩ := hr'.2.2 (by omega)
      obtain ⟨A1, n1, q1, c1, c2, c3⟩ := hc k hlt
      obtain ⟨A2, n2, q2, d1, d2, d3⟩ := hc' k hlt
      have hn12 : n2 = n1 := by rw [← d3.1, ← c3.1]
      subst hn12
      have hk0 : (0 : Int) ≤ (k : Int) := by omega
      have hkn : (k : Int) < (n : Int) := by omega
      clear hc hr h hc' hr' h'
      generalize F.getD k ([], 0) = f1 at *
      go_wp2_with fail
      go_region_held3 (fun W => W.cell? ⟨g, off + k * 2, none⟩ = some (Value.slice A1 n2 q1) ∧ W.cell? ⟨g, off + k * 2 + 1, none⟩ = some (Value.int .i64 f1.2) ∧ W.cell? ⟨g', off' + k * 2, none⟩ = some (Value.slice A2 n2 q2) ∧ W.cell? ⟨g', off' + k * 2 + 1, none⟩ = some (Value.int .i64 f1.2)) (first | exact ⟨c1, c2, d1, d2⟩ | exact c4_below hB1 hg hg' c1 c2 d1 d2 | go_keep) (first | (go_at_call 20; refine (lsform_calls A1 n2 q1 A2 q2 f1 _ (c3.below (bl_drew (Below.refl _ _))) (d3.below (bl_drew (Below.refl _ _)))).mono ?_; rintro e ww ⟨rfl, hB1⟩; have HB1 := bl_then (bl_drew hBw) hB1) | fail)
      all_goals
        go_wp2
        go_roundw
        case rel => exact ⟨k + 1, hlt, by go_num, HB1⟩
        case measure => simp [intOf]; omega
    · go_wp2
      go_ret
      exact ⟨rfl, hBw⟩
end Go.Proofs.Ytjmbpeniibdnoaa

namespace Go.Proofs.Ytjmbpeniibdnoaa
open Go.RowKit

theorem rdc_two {W : World} {g : Nat} {x y : Int} {t : TypeId} (h : W.heap[g]? = some (.cells #[.int .i64 x, .int .i64 y] t (0, 0))) : RdC W (some ⟨g, 0, none⟩) 2 [x, y] := by
  refine ⟨rfl, by omega, fun _ => ⟨g, 0, rfl, blk_lt h, fun j hj => ?_⟩⟩
  match j, hj with
  | 0, _ => exact (blk_cell h 0).1
  | 1, _ => exact (blk_cell h 1).1
theorem rdf_one {W : World} {g g1 : Nat} {x y a : Int} {t1 t : TypeId} (h : W.heap[g]? = some (.cells #[.slice (some ⟨g1, 0, none⟩) 2 2, .int .i64 a] t (0, 0))) (h1 : W.heap[g1]? = some (.cells #[.int .i64 x, .int .i64 y] t1 (0, 0))) : RdF W (some ⟨g, 0, none⟩) 1 [([x, y], a)] := by
  refine ⟨rfl, by omega, fun _ => ⟨g, 0, rfl, blk_lt h, fun j hj => ?_⟩⟩
  have : j = 0 := by omega
  subst this
  exact ⟨_, _, _, (blk_cell h 0).1, (blk_cell h 1).1, rdc_two h1⟩
theorem rdf_two {W : World} {g g1 g2 : Nat} {x1 y1 a1 x2 y2 a2 : Int} {t1 t2 t : TypeId} (h : W.heap[g]? = some (.cells #[.slice (some ⟨g1, 0, none⟩) 2 2, .int .i64 a1, .slice (some ⟨g2, 0, none⟩) 2 2, .int .i64 a2] t (0, 0))) (h1 : W.heap[g1]? = some (.cells #[.int .i64 x1, .int .i64 y1] t1 (0, 0))) (h2 : W.heap[g2]? = some (.cells #[.int .i64 x2, .int .i64 y2] t2 (0, 0))) : RdF W (some ⟨g, 0, none⟩) 2 [([x1, y1], a1), ([x2, y2], a2)] := by
  refine ⟨rfl, by omega, fun _ => ⟨g, 0, rfl, blk_lt h, fun j hj => ?_⟩⟩
  match j, hj with
  | 0, _ => exact ⟨_, _, _, (blk_cell h 0).1, (blk_cell h 1).1, rdc_two h1⟩
  | 1, _ => exact ⟨_, _, _, (blk_cell h 2).1, (blk_cell h 3).1, rdc_two h2⟩
def exE : List Fm := [([1, 1], -3), ([2, -1], 0)]
def exE' : List Fm := [([1, 0], -1), ([0, 1], -2)]
def exS : List Fm := [([2, 4], -6)]
theorem exE_ok : OkFs 2 exE := by decide
theorem exS_ok : OkFs 2 exS := by decide
theorem exE_rows : rowsF 2 (exE.map rowF) = some [([1, 0], -1), ([0, 1], -2)] := by decide +kernel
theorem exS_rows : rowsF 2 (exS.map rowF) = some [([1, 2], -3)] := by decide +kernel
theorem exE_fs : fsOk [(([1, 0] : List Rat), (-1 : Rat)), ([0, 1], -2)] := by decide +kernel
theorem exE_ech : echF 2 exE = (exE', true, 0) := by
  unfold echF
  rw [if_pos exE_ok, show (2 : Int).toNat = 2 from rfl, exE_rows]
  show (fsF _, fsE _ == 0, fsE _) = _
  unfold fsF fsE
  rw [if_pos exE_fs, if_pos exE_fs]
  decide +kernel
theorem exS_os : osOk (solX 2 [(([1, 2] : List Rat), (-3 : Rat))]) := by decide +kernel
theorem exS_sol : solF 2 exS = ([(3, 1), (0, 1)], true, 0) := by
  unfold solF
  rw [if_pos exS_ok, show (2 : Int).toNat = 2 from rfl, exS_rows]
  show (osF _, osE _ == 0, osE _) = _
  unfold osF osE
  rw [if_pos exS_os, if_pos exS_os]
  decide +kernel
theorem i64f_of {n : Int} {f : Fm} (h : OkF n f) : I64F f := by
  refine ⟨fun x hx => ?_, ?_⟩
  · have := h.2.2.2 x hx; unfold mid at this; omega
  · have := h.2.2.1; unfold mid at this; omega
set_option maxHeartbeats 40000000
set_option maxRecDepth 100000
theorem lawake_calls (w : World) : Calls Try.prog 5 #[] w fun e w' => e = .returned (.bool true) ∧ Below w.heap.size w w' := by
  have HE := Lib.hid exE_ech
  have HS := Lib.hid exS_sol
  have HCE := Lib.hid (fun A w (h : RdF w A 2 exE) => lech_calls 2 A 2 2 exE w h (fun f hf => i64f_of (exE_ok.2.2 f hf)) (fun f hf => by have := (exE_ok.2.2 f hf).2.1; omega) (by omega))
  have HCS := Lib.hid (fun A w (h : RdF w A 1 exS) => lsol_calls 2 A 1 1 exS w h (fun f hf => i64f_of (exS_ok.2.2 f hf)) (fun f hf => by have := (exS_ok.2.2 f hf).2.1; omega) (by omega))
  rw [HE.out] at HCE
  rw [HS.out] at HCS
  go_enter Try.func5, Try.ntmps5
  go_wp2_with fail
  have b1 : (((w.alloc (.cells #[.int .i64 1, .int .i64 1] 3)).alloc (.cells #[.int .i64 2, .int .i64 (-1)] 3)).alloc (.cells #[.slice (some ⟨w.heap.size, 0, none⟩) 2 2, .int .i64 (-3), .slice (some ⟨w.heap.size + 1, 0, none⟩) 2 2, .int .i64 0] 30)).heap[w.heap.size]? = some (.cells #[.int .i64 1, .int .i64 1] 3 (0, 0)) := blk_alloc (blk_alloc (blk_at _ rfl) _) _
  have b2 : (((w.alloc (.cells #[.int .i64 1, .int .i64 1] 3)).alloc (.cells #[.int .i64 2, .int .i64 (-1)] 3)).alloc (.cells #[.slice (some ⟨w.heap.size, 0, none⟩) 2 2, .int .i64 (-3), .slice (some ⟨w.heap.size + 1, 0, none⟩) 2 2, .int .i64 0] 30)).heap[w.heap.size + 1]? = some (.cells #[.int .i64 2, .int .i64 (-1)] 3 (0, 0)) := blk_alloc (blk_at _ (by simp)) _
  have b3 : (((w.alloc (.cells #[.int .i64 1, .int .i64 1] 3)).alloc (.cells #[.int .i64 2, .int .i64 (-1)] 3)).alloc (.cells #[.slice (some ⟨w.heap.size, 0, none⟩) 2 2, .int .i64 (-3), .slice (some ⟨w.heap.size + 1, 0, none⟩) 2 2, .int .i64 0] 30)).heap[w.heap.size + 1 + 1]? = some (.cells #[.slice (some ⟨w.heap.size, 0, none⟩) 2 2, .int .i64 (-3), .slice (some ⟨w.heap.size + 1, 0, none⟩) 2 2, .int .i64 0] 30 (0, 0)) := blk_at _ (by simp)
  have B0 := bl_alloc (bl_alloc (bl_alloc (Below.refl w.heap.size w) (.cells #[.int .i64 1, .int .i64 1] 3)) (.cells #[.int .i64 2, .int .i64 (-1)] 3)) (.cells #[.slice (some ⟨w.heap.size, 0, none⟩) 2 2, .int .i64 (-3), .slice (some ⟨w.heap.size + 1, 0, none⟩) 2 2, .int .i64 0] 30)
  refine (HCE.out _ _ (rdf_two b3 b1 b2)).mono ?_
  rintro e w1 ⟨⟨A1, m1, c1, rfl, t1, _⟩, hB1⟩
  replace B0 := bl_then B0 hB1
  clear b1 b2 b3 hB1 HCE
  go_wp2_with fail
  have b1 : ((w1.alloc (.cells #[.int .i64 2, .int .i64 4] 3)).alloc (.cells #[.slice (some ⟨w1.heap.size, 0, none⟩) 2 2, .int .i64 (-6)] 30)).heap[w1.heap.size]? = some (.cells #[.int .i64 2, .int .i64 4] 3 (0, 0)) := blk_alloc (blk_at _ rfl) _
  have b2 : ((w1.alloc (.cells #[.int .i64 2, .int .i64 4] 3)).alloc (.cells #[.slice (some ⟨w1.heap.size, 0, none⟩) 2 2, .int .i64 (-6)] 30)).heap[w1.heap.size + 1]? = some (.cells #[.slice (some ⟨w1.heap.size, 0, none⟩) 2 2, .int .i64 (-6)] 30 (0, 0)) := blk_at _ (by simp)
  have H1 := bl_alloc (bl_alloc (Below.refl w1.heap.size w1) (.cells #[.int .i64 2, .int .i64 4] 3)) (.cells #[.slice (some ⟨w1.heap.size, 0, none⟩) 2 2, .int .i64 (-6)] 30)
  refine (HCS.out _ _ (rdf_one b2 b1)).mono ?_
  rintro e w2 ⟨⟨A2, m2, c2, rfl, t2, _⟩, hB2⟩
  replace H1 := bl_then H1 hB2
  replace t1 := t1.below H1
  replace B0 := bl_then B0 H1
  clear b1 b2 hB2 HCS H1
  have hm1 : m1 = 2 := t1.1.symm
  have hm2 : m2 = 2 := t2.1.symm
  subst hm1 hm2
  go_wp2_with fail
  have b1 : (((w2.alloc (.cells #[.int .i64 1, .int .i64 0] 3)).alloc (.cells #[.int .i64 0, .int .i64 1] 3)).alloc (.cells #[.slice (some ⟨w2.heap.size, 0, none⟩) 2 2, .int .i64 (-1), .slice (some ⟨w2.heap.size + 1, 0, none⟩) 2 2, .int .i64 (-2)] 30)).heap[w2.heap.size]? = some (.cells #[.int .i64 1, .int .i64 0] 3 (0, 0)) := blk_alloc (blk_alloc (blk_at _ rfl) _) _
  have b2 : (((w2.alloc (.cells #[.int .i64 1, .int .i64 0] 3)).alloc (.cells #[.int .i64 0, .int .i64 1] 3)).alloc (.cells #[.slice (some ⟨w2.heap.size, 0, none⟩) 2 2, .int .i64 (-1), .slice (some ⟨w2.heap.size + 1, 0, none⟩) 2 2, .int .i64 (-2)] 30)).heap[w2.heap.size + 1]? = some (.cells #[.int .i64 0, .int .i64 1] 3 (0, 0)) := blk_alloc (blk_at _ (by simp)) _
  have b3 : (((w2.alloc (.cells #[.int .i64 1, .int .i64 0] 3)).alloc (.cells #[.int .i64 0, .int .i64 1] 3)).alloc (.cells #[.slice (some ⟨w2.heap.size, 0, none⟩) 2 2, .int .i64 (-1), .slice (some ⟨w2.heap.size + 1, 0, none⟩) 2 2, .int .i64 (-2)] 30)).heap[w2.heap.size + 1 + 1]? = some (.cells #[.slice (some ⟨w2.heap.size, 0, none⟩) 2 2, .int .i64 (-1), .slice (some ⟨w2.heap.size + 1, 0, none⟩) 2 2, .int .i64 (-2)] 30 (0, 0)) := blk_at _ (by simp)
  have H1 := bl_alloc (bl_alloc (bl_alloc (Below.refl w2.heap.size w2) (.cells #[.int .i64 1, .int .i64 0] 3)) (.cells #[.int .i64 0, .int .i64 1] 3)) (.cells #[.slice (some ⟨w2.heap.size, 0, none⟩) 2 2, .int .i64 (-1), .slice (some ⟨w2.heap.size + 1, 0, none⟩) 2 2, .int .i64 (-2)] 30)
  refine (lsforms_calls A1 2 c1 _ 2 exE' _ (t1.below H1) (rdf_two b3 b1 b2)).mono ?_
  rintro e w3 ⟨rfl, hB3⟩
  replace H1 := bl_then H1 hB3
  replace t2 := t2.below H1
  replace B0 := bl_then B0 H1
  clear b1 b2 b3 hB3 H1 t1
  go_wp2_with fail
  have b1 : (w3.alloc (.cells #[.int .i64 3, .int .i64 1, .int .i64 0, .int .i64 1] 36)).heap[w3.heap.size]? = some (.cells #[.int .i64 3, .int .i64 1, .int .i64 0, .int .i64 1] 36 (0, 0)) := blk_at _ rfl
  have H1 := bl_alloc (Below.refl w3.heap.size w3) (.cells #[.int .i64 3, .int .i64 1, .int .i64 0, .int .i64 1] 36)
  refine (lnsame_calls A2 2 c2 _ 2 [(3, 1), (0, 1)] _ (t2.below H1) (RdN.two b1)).mono ?_
  rintro e w4 ⟨rfl, hB4⟩
  replace H1 := bl_then H1 hB4
  replace B0 := bl_then B0 H1
  clear b1 hB4 H1 t2
  go_wp2
  go_ret
  exact ⟨rfl, B0⟩
theorem lfew1_calls (A : Option Addr) (n c : Nat) (f : Fm) (g : Nat) (cp : Nat) (w : World) (hg : w.heap[g]? = some (.cells #[.slice A n c, .int .i64 f.2] 30 (0, 0))) (hn : n ≤ 9223372036854775807) :
    Calls Try.prog 4 #[.slice (some ⟨g, 0, none⟩) 1 cp] w fun e w' => e = .returned (.bool (decide (n ≤ 40))) ∧ Below w.heap.size w w' := by
  have hlt := blk_lt hg
  obtain ⟨f1, f2, _, _⟩ := bx2 hg
  have B0 := bl_alloc (Below.refl w.heap.size w) (.cells #[.slice A n c, .int .i64 f.2] 30)
  by_cases h40 : n ≤ 40
  · rw [decide_eq_true h40]
    have d1 : ¬ (40 : Int) < (n : Int) := by omega
    go_enter Try.func4, Try.ntmps4
    go_wp2_with fail
    go_loopw [7] (fun i wr => ∃ k : Nat, k ≤ 1 ∧ i = .int .i64 k ∧ Below w.heap.size w wr) (fun i _ => 1 - (intOf i).toNat)
    case atStart => exact ⟨0, by omega, rfl, Below.refl _ _⟩
    case round =>
      obtain ⟨k, hk, rfl, hBw⟩ := hrel
      by_cases hl : k < 1
      · have hk0 : k = 0 := by omega
        subst hk0
        obtain ⟨k1, k2, _, _⟩ := bx2 (blk_below hg hBw)
        have hBx := bl_alloc hBw (.cells #[.slice A n c, .int .i64 f.2] 30)
        go_wp2
        go_roundw
        case rel => exact ⟨1, by omega, rfl, hBx⟩
        case measure => simp [intOf]
      · have hk1 : k = 1 := by omega
        subst hk1
        go_wp2
        go_ret
        exact ⟨rfl, hBw⟩
  · rw [decide_eq_false h40]
    have d1 : (40 : Int) < (n : Int) := by omega
    go_enter Try.func4, Try.ntmps4
    go_wp2_with fail
    go_loopw [7] (fun i wr => i = .int .i64 0 ∧ wr = w) (fun i _ => 1 - (intOf i).toNat)
    case atStart => exact ⟨rfl, rfl⟩
    case round =>
      obtain ⟨rfl, rfl⟩ := hrel
      go_wp2
      go_ret
      exact ⟨rfl, B0⟩
end Go.Proofs.Ytjmbpeniibdnoaa

namespace Go.Proofs.Ytjmbpeniibdnoaa
open Go.RowKit

theorem num_sub_zero (a b : Rat) : ((a - b).num.sign = 0) ↔ a = b := by
  rw [num_sign_zero]
  constructor
  · intro h; grind
  · intro h; rw [h]; grind
set_option maxHeartbeats 40000000
set_option maxRecDepth 100000
theorem leqrat_calls (x y : RC) (q r : Rat) (w : World) (hx : x.Is w q) (hy : y.Is w r) (k : Nat) (s1 : SzR k q) (s2 : SzR k r) (hk : k ≤ 10000000000) :
    Calls Try.prog 72 #[.agg #[.int .i64 x.v, .slice x.A x.n x.c, .int .i64 x.v', .slice x.A' x.n' x.c'], .agg #[.int .i64 y.v, .slice y.A y.n y.c, .int .i64 y.v', .slice y.A' y.n' y.c']] w fun e w' => e = .returned (.bool (decide (q = r))) ∧ Below w.heap.size w w' := by
  have HN := Lib.hid (num_sub_zero q r)
  generalize hD : decide (q = r) = D
  have HD := Lib.hid hD
  clear hD
  go_enter Try.func72, Try.ntmps72
  have B0 := bl_alloc (bl_alloc (Below.refl w.heap.size w) (.cells #[.int .i64 x.v, .slice x.A x.n x.c, .int .i64 x.v', .slice x.A' x.n' x.c'] 63)) (.cells #[.int .i64 y.v, .slice y.A y.n y.c, .int .i64 y.v', .slice y.A' y.n' y.c'] 63)
  obtain ⟨⟨f1, f2, f3, f4⟩, f5⟩ := bx4 (blk_alloc (blk_at (W := w) (.cells #[.int .i64 x.v, .slice x.A x.n x.c, .int .i64 x.v', .slice x.A' x.n' x.c'] 63) rfl) (.cells #[.int .i64 y.v, .slice y.A y.n y.c, .int .i64 y.v', .slice y.A' y.n' y.c'] 63))
  go_wp2_with fail
  refine (rcmp_calls x.v x.A x.n x.c x.v' x.A' x.n' x.c' q y.v y.A y.n y.c y.v' y.A' y.n' y.c' r _ (RatV.below hx B0) (RatV.below hy B0) k s1 s2 hk).mono ?_
  rintro e w1 ⟨rfl, hB1⟩
  have B1 := bl_then B0 hB1
  clear f1 f2 f3 f4 f5 B0 hB1
  by_cases he : q = r
  · have hd := HD.out
    rw [decide_eq_true he] at hd
    subst hd
    rw [HN.out.2 he]
    go_wp2
    go_ret
    exact ⟨rfl, B1⟩
  · have hs : ((q - r).num.sign == 0) = false := by
      have : ¬ (q - r).num.sign = 0 := fun h => he (HN.out.1 h)
      simpa using this
    have hs2 : decide ((q - r).num.sign = 0) = false := decide_eq_false fun h => he (HN.out.1 h)
    have hd := HD.out
    rw [decide_eq_false he] at hd
    subst hd
    generalize (q - r).num.sign = sg at *
    go_wp2
    go_ret
    exact ⟨by first | rfl | simp [hs] | simp [hs2], B1⟩
/-- A box of a rational is laid by an alloc; the comparison of two lists of rationals. -/
theorem leqrats_calls (A : Option Addr) (n c : Nat) (A' : Option Addr) (n' c' : Nat) (X Y : List Rat) (w : World) (h : RdQ w A n X) (h' : RdQ w A' n' Y) (k : Nat) (s1 : ∀ j, SzR k (X.getD j 0)) (s2 : ∀ j, SzR k (Y.getD j 0)) (hk : k ≤ 10000000000) :
    Calls Try.prog 71 #[.slice A n c, .slice A' n' c', .func (.func 72) #[] #[]] w fun e w' => e = .returned (.bool (decide (X = Y))) ∧ Below w.heap.size w w' := by
  have L1 := Lib.hid h.1
  have L2 := Lib.hid h'.1
  have hn := h.2.1
  have hn' := h'.2.1
  have HS1 := Lib.hid s1
  have HS2 := Lib.hid s2
  generalize hD : decide (X = Y) = D
  have HD := Lib.hid hD
  clear hD s1 s2
  go_enter Try.func71, Try.ntmps71
  by_cases hl : n = n'
  · subst hl
    have d1 : ((n : Int) != (n : Int)) = false := by simp
    go_wp2_with fail
    go_loopw [17] (fun i wr => ∃ kk : Nat, kk ≤ n ∧ i = .int .i64 kk ∧ (∀ j, j < kk → X.getD j 0 = Y.getD j 0) ∧ Below w.heap.size w wr) (fun i _ => n - (intOf i).toNat)
    case atStart => exact ⟨0, Nat.zero_le _, rfl, fun j hj => absurd hj (by omega), Below.refl _ _⟩
    case round =>
      obtain ⟨kk, hkk, rfl, hall, B0⟩ := hrel
      have HALL := Lib.hid hall
      clear hall
      by_cases hlt : kk < n
      · obtain ⟨g, off, rfl, hg, hc⟩ := (h.below B0).2.2.1 (by omega)
        obtain ⟨x, ⟨p1, p2, p3, p4⟩, hx0⟩ := hc kk hlt
        obtain ⟨g', off', rfl, hg', hc'⟩ := (h'.below B0).2.2.1 (by omega)
        obtain ⟨y, ay, hy0⟩ := hc' kk hlt
        have S1 := Lib.hid (HS1.out kk)
        have S2 := Lib.hid (HS2.out kk)
        clear hc hc' h h'
        generalize hx : X.getD kk 0 = q at *
        generalize hy : Y.getD kk 0 = r at *
        have HX := Lib.hid hx
        have HY := Lib.hid hy
        clear hx hy
        have ay2 := At4.al ay hg' (.cells #[.int .i64 x.v, .slice x.A x.n x.c, .int .i64 x.v', .slice x.A' x.n' x.c'] 63)
        obtain ⟨q1, q2, q3, q4⟩ := at4c ay2
        have ax := blk_alloc (blk_at (W := wr) (.cells #[.int .i64 x.v, .slice x.A x.n x.c, .int .i64 x.v', .slice x.A' x.n' x.c'] 63) rfl) (.cells #[.int .i64 y.v, .slice y.A y.n y.c, .int .i64 y.v', .slice y.A' y.n' y.c'] 63)
        obtain ⟨⟨x1, x2, x3, x4⟩, x5⟩ := bx4 ax
        have B1 := bl_alloc (bl_alloc B0 (.cells #[.int .i64 x.v, .slice x.A x.n x.c, .int .i64 x.v', .slice x.A' x.n' x.c'] 63)) (.cells #[.int .i64 y.v, .slice y.A y.n y.c, .int .i64 y.v', .slice y.A' y.n' y.c'] 63)
        have hk0 : (0 : Int) ≤ (kk : Int) := by omega
        have hkn : (kk : Int) < (n : Int) := by omega
        go_wp2_with fail
        refine (leqrat_calls x y q r _ (RatV.al (RatV.al hx0 _) _) (RatV.al (RatV.al hy0 _) _) k S1.out S2.out hk).mono ?_
        rintro e w1 ⟨he, hB1⟩
        replace B1 := bl_then B1 hB1
        clear p1 p2 p3 p4 q1 q2 q3 q4 x1 x2 x3 x4 x5 ax ay ay2 hx0 hy0 hB1 hg hg'
        by_cases hqr : q = r
        · rw [decide_eq_true hqr] at he
          subst he
          have HQR := Lib.hid hqr
          clear hqr
          go_wp2
          go_roundw
          case rel =>
            refine ⟨kk + 1, hlt, by go_num, ?_, B1⟩
            intro j hj
            rcases Nat.lt_or_ge j kk with h1 | h1
            · exact HALL.out j h1
            · have : j = kk := by omega
              subst this
              rw [HX.out, HY.out]; exact HQR.out
          case measure => simp [intOf]; omega
        · rw [decide_eq_false hqr] at he
          subst he
          have hd := HD.out
          rw [decide_eq_false (fun e => hqr (by rw [← HX.out, ← HY.out, e]))] at hd
          subst hd
          go_wp2
          go_ret
          exact ⟨rfl, B1⟩
      · have hd := HD.out
        rw [decide_eq_true (show X = Y from by
          apply List.ext_getElem?
          intro j
          rcases Nat.lt_or_ge j n with hj | hj
          · have := HALL.out j (by omega)
            rw [List.getD_eq_getElem?_getD, List.getD_eq_getElem?_getD, List.getElem?_eq_getElem (by rw [L1.out]; exact hj), List.getElem?_eq_getElem (by rw [L2.out]; exact hj)] at this
            rw [List.getElem?_eq_getElem (by rw [L1.out]; exact hj), List.getElem?_eq_getElem (by rw [L2.out]; exact hj)]
            exact congrArg some this
          · rw [List.getElem?_eq_none (by rw [L1.out]; exact hj), List.getElem?_eq_none (by rw [L2.out]; exact hj)])] at hd
        subst hd
        go_wp2
        go_ret
        exact ⟨rfl, B0⟩
  · have hd := HD.out
    rw [decide_eq_false (fun e => hl (by rw [← L1.out, ← L2.out, e]))] at hd
    subst hd
    have d1 : ((n : Int) != (n' : Int)) = true := by simp; omega
    go_wp2
    go_ret
    exact ⟨rfl, Below.refl _ _⟩
end Go.Proofs.Ytjmbpeniibdnoaa

namespace Go.Proofs.Ytjmbpeniibdnoaa
open Go.RowKit

set_option maxHeartbeats 40000000
set_option maxRecDepth 100000
theorem lequal_calls (A1 : Option Addr) (n1 c1 : Nat) (x1 : RC) (b1 : Bool) (r1 : Rw) (A2 : Option Addr) (n2 c2 : Nat) (x2 : RC) (b2 : Bool) (r2 : Rw) (w : World) (h1 : RwV w A1 n1 x1 r1) (h2 : RwV w A2 n2 x2 r2) (k : Nat) (s1 : SzW k r1) (s2 : SzW k r2) (hk : k ≤ 10000000000) :
    Calls Try.prog 47 #[.agg #[.slice A1 n1 c1, .int .i64 x1.v, .slice x1.A x1.n x1.c, .int .i64 x1.v', .slice x1.A' x1.n' x1.c', .bool b1], .agg #[.slice A2 n2 c2, .int .i64 x2.v, .slice x2.A x2.n x2.c, .int .i64 x2.v', .slice x2.A' x2.n' x2.c', .bool b2]] w fun e w' => e = .returned (.bool (decide (r1 = r2))) ∧ Below w.heap.size w w' := by
  have HN := Lib.hid (num_sub_zero r1.2 r2.2)
  have HS1 := Lib.hid s1
  have HS2 := Lib.hid s2
  have HE : Hid ((r1 = r2) ↔ (r1.2 = r2.2 ∧ r1.1 = r2.1)) := Lib.hid ⟨fun e => ⟨by rw [e], by rw [e]⟩, fun e => Prod.ext e.2 e.1⟩
  generalize hD : decide (r1 = r2) = D
  have HD := Lib.hid hD
  clear hD s1 s2
  go_enter Try.func47, Try.ntmps47
  have B0 := bl_alloc (bl_alloc (Below.refl w.heap.size w) (.cells #[.slice A1 n1 c1, .int .i64 x1.v, .slice x1.A x1.n x1.c, .int .i64 x1.v', .slice x1.A' x1.n' x1.c', .bool b1] 65)) (.cells #[.slice A2 n2 c2, .int .i64 x2.v, .slice x2.A x2.n x2.c, .int .i64 x2.v', .slice x2.A' x2.n' x2.c', .bool b2] 65)
  have a1 := blk_alloc (blk_at (W := w) (.cells #[.slice A1 n1 c1, .int .i64 x1.v, .slice x1.A x1.n x1.c, .int .i64 x1.v', .slice x1.A' x1.n' x1.c', .bool b1] 65) rfl) (.cells #[.slice A2 n2 c2, .int .i64 x2.v, .slice x2.A x2.n x2.c, .int .i64 x2.v', .slice x2.A' x2.n' x2.c', .bool b2] 65)
  have a2 : ((w.alloc (.cells #[.slice A1 n1 c1, .int .i64 x1.v, .slice x1.A x1.n x1.c, .int .i64 x1.v', .slice x1.A' x1.n' x1.c', .bool b1] 65)).alloc (.cells #[.slice A2 n2 c2, .int .i64 x2.v, .slice x2.A x2.n x2.c, .int .i64 x2.v', .slice x2.A' x2.n' x2.c', .bool b2] 65)).heap[w.heap.size + 1]? = some (.cells #[.slice A2 n2 c2, .int .i64 x2.v, .slice x2.A x2.n x2.c, .int .i64 x2.v', .slice x2.A' x2.n' x2.c', .bool b2] 65 (0, 0)) := blk_at _ (by simp)
  obtain ⟨⟨f1, f2, f3, f4, f5, f6⟩, f7⟩ := q6 a1
  obtain ⟨⟨g1, g2, g3, g4, g5, g6⟩, g7⟩ := q6 a2
  go_wp2_with fail
  refine (rcmp_calls x1.v x1.A x1.n x1.c x1.v' x1.A' x1.n' x1.c' r1.2 x2.v x2.A x2.n x2.c x2.v' x2.A' x2.n' x2.c' r2.2 _ (RatV.below h1.2 B0) (RatV.below h2.2 B0) k HS1.out.2 HS2.out.2 hk).mono ?_
  rintro e w1 ⟨rfl, hB1⟩
  replace a1 := blk_below a1 hB1
  replace a2 := blk_below a2 hB1
  replace B0 := bl_then B0 hB1
  clear f1 f2 f3 f4 f5 f6 f7 g1 g2 g3 g4 g5 g6 g7 hB1
  by_cases he : r1.2 = r2.2
  · rw [HN.out.2 he]
    obtain ⟨⟨f1, f2, f3, f4, f5, f6⟩, f7⟩ := q6 a1
    obtain ⟨⟨g1, g2, g3, g4, g5, g6⟩, g7⟩ := q6 a2
    have HHE := Lib.hid he
    clear he
    go_wp2_with fail
    refine (leqrats_calls A1 n1 c1 A2 n2 c2 r1.1 r2.1 _ (h1.1.below B0) (h2.1.below B0) k HS1.out.1 HS2.out.1 hk).mono ?_
    rintro e w2 ⟨he2, hB2⟩
    have : decide (r1.1 = r2.1) = D := by
      rw [← HD.out]
      apply decide_eq_decide.2
      exact ⟨fun e => HE.out.2 ⟨HHE.out, e⟩, fun e => (HE.out.1 e).2⟩
    rw [this] at he2
    subst he2
    have B1 := bl_then B0 hB2
    go_wp2
    go_ret
    exact ⟨rfl, B1⟩
  · have hs : ((r1.2 - r2.2).num.sign == 0) = false := by
      have : ¬ (r1.2 - r2.2).num.sign = 0 := fun h => he (HN.out.1 h)
      simpa using this
    have hs2 : decide ((r1.2 - r2.2).num.sign = 0) = false := decide_eq_false fun h => he (HN.out.1 h)
    have hd := HD.out
    rw [decide_eq_false (fun e => he (HE.out.1 e).1)] at hd
    subst hd
    generalize (r1.2 - r2.2).num.sign = sg at *
    go_wp2
    go_ret
    exact ⟨rfl, B0⟩
theorem leqrows_calls (A : Option Addr) (n c : Nat) (A' : Option Addr) (n' c' : Nat) (X Y : List Rw) (w : World) (h : RdW w A n X) (h' : RdW w A' n' Y) (k : Nat) (s1 : ∀ r ∈ X, SzW k r) (s2 : ∀ r ∈ Y, SzW k r) (hk : k ≤ 10000000000) :
    Calls Try.prog 69 #[.slice A n c, .slice A' n' c', .func (.func 47) #[] #[]] w fun e w' => e = .returned (.bool (decide (X = Y))) ∧ Below w.heap.size w w' := by
  have L1 := Lib.hid h.1
  have L2 := Lib.hid h'.1
  have hn := h.2.1
  have hn' := h'.2.1
  have HS1 := Lib.hid s1
  have HS2 := Lib.hid s2
  generalize hD : decide (X = Y) = D
  have HD := Lib.hid hD
  clear hD s1 s2
  go_enter Try.func69, Try.ntmps69
  by_cases hl : n = n'
  · subst hl
    have d1 : ((n : Int) != (n : Int)) = false := by simp
    go_wp2_with fail
    go_loopw [17] (fun i wr => ∃ kk : Nat, kk ≤ n ∧ i = .int .i64 kk ∧ (∀ j, j < kk → X.getD j ([], 0) = Y.getD j ([], 0)) ∧ Below w.heap.size w wr) (fun i _ => n - (intOf i).toNat)
    case atStart => exact ⟨0, Nat.zero_le _, rfl, fun j hj => absurd hj (by omega), Below.refl _ _⟩
    case round =>
      obtain ⟨kk, hkk, rfl, hall, B0⟩ := hrel
      have HALL := Lib.hid hall
      clear hall
      by_cases hlt : kk < n
      · obtain ⟨g, off, rfl, hg, hc⟩ := (h.below B0).2.2 (by omega)
        obtain ⟨A1, n1, c1, x1, b1, ⟨p1, p2, p3, p4, p5, p6⟩, t1⟩ := hc kk hlt
        obtain ⟨g', off', rfl, hg', hc'⟩ := (h'.below B0).2.2 (by omega)
        obtain ⟨A2, n2, c2, x2, b2, a6, t2⟩ := hc' kk hlt
        have S1 := Lib.hid (HS1.out _ (mem_getD (d := (([], 0) : Rw)) (by rw [L1.out]; exact hlt : kk < X.length)))
        have S2 := Lib.hid (HS2.out _ (mem_getD (d := (([], 0) : Rw)) (by rw [L2.out]; exact hlt : kk < Y.length)))
        clear hc hc' h h'
        generalize hx : X.getD kk ([], 0) = r1 at *
        generalize hy : Y.getD kk ([], 0) = r2 at *
        have HX := Lib.hid hx
        have HY := Lib.hid hy
        clear hx hy
        have a62 := At6.below a6 hg' (bl_alloc (Below.refl _ _) (.cells #[.slice A1 n1 c1, .int .i64 x1.v, .slice x1.A x1.n x1.c, .int .i64 x1.v', .slice x1.A' x1.n' x1.c', .bool b1] 65))
        obtain ⟨q1, q2, q3, q4, q5, q6'⟩ := a62
        have ax := blk_alloc (blk_at (W := wr) (.cells #[.slice A1 n1 c1, .int .i64 x1.v, .slice x1.A x1.n x1.c, .int .i64 x1.v', .slice x1.A' x1.n' x1.c', .bool b1] 65) rfl) (.cells #[.slice A2 n2 c2, .int .i64 x2.v, .slice x2.A x2.n x2.c, .int .i64 x2.v', .slice x2.A' x2.n' x2.c', .bool b2] 65)
        obtain ⟨⟨y1, y2, y3, y4, y5, y6⟩, y7⟩ := q6 ax
        have H2 := bl_alloc (bl_alloc (Below.refl wr.heap.size wr) (.cells #[.slice A1 n1 c1, .int .i64 x1.v, .slice x1.A x1.n x1.c, .int .i64 x1.v', .slice x1.A' x1.n' x1.c', .bool b1] 65)) (.cells #[.slice A2 n2 c2, .int .i64 x2.v, .slice x2.A x2.n x2.c, .int .i64 x2.v', .slice x2.A' x2.n' x2.c', .bool b2] 65)
        have B1 := bl_then B0 H2
        have hk0 : (0 : Int) ≤ (kk : Int) := by omega
        have hkn : (kk : Int) < (n : Int) := by omega
        go_wp2_with fail
        refine (lequal_calls A1 n1 c1 x1 b1 r1 A2 n2 c2 x2 b2 r2 _ (t1.below H2) (t2.below H2) k S1.out S2.out hk).mono ?_
        rintro e w1 ⟨he, hB1⟩
        replace B1 := bl_then B1 hB1
        clear p1 p2 p3 p4 p5 p6 q1 q2 q3 q4 q5 q6' y1 y2 y3 y4 y5 y6 y7 ax a6 t1 t2 hB1 hg hg' H2
        by_cases hqr : r1 = r2
        · rw [decide_eq_true hqr] at he
          subst he
          have HQR := Lib.hid hqr
          clear hqr
          go_wp2
          go_roundw
          case rel =>
            refine ⟨kk + 1, hlt, by go_num, ?_, B1⟩
            intro j hj
            rcases Nat.lt_or_ge j kk with h1 | h1
            · exact HALL.out j h1
            · have : j = kk := by omega
              subst this
              rw [HX.out, HY.out]; exact HQR.out
          case measure => simp [intOf]; omega
        · rw [decide_eq_false hqr] at he
          subst he
          have hd := HD.out
          rw [decide_eq_false (fun e => hqr (by rw [← HX.out, ← HY.out, e]))] at hd
          subst hd
          go_wp2
          go_ret
          exact ⟨rfl, B1⟩
      · have hd := HD.out
        rw [decide_eq_true (show X = Y from by
          apply List.ext_getElem?
          intro j
          rcases Nat.lt_or_ge j n with hj | hj
          · have := HALL.out j (by omega)
            rw [List.getD_eq_getElem?_getD, List.getD_eq_getElem?_getD, List.getElem?_eq_getElem (by rw [L1.out]; exact hj), List.getElem?_eq_getElem (by rw [L2.out]; exact hj)] at this
            rw [List.getElem?_eq_getElem (by rw [L1.out]; exact hj), List.getElem?_eq_getElem (by rw [L2.out]; exact hj)]
            exact congrArg some this
          · rw [List.getElem?_eq_none (by rw [L1.out]; exact hj), List.getElem?_eq_none (by rw [L2.out]; exact hj)])] at hd
        subst hd
        go_wp2
        go_ret
        exact ⟨rfl, B0⟩
  · have hd := HD.out
    rw [decide_eq_false (fun e => hl (by rw [← L1.out, ← L2.out, e]))] at hd
    subst hd
    have d1 : ((n : Int) != (n' : Int)) = true := by simp; omega
    go_wp2
    go_ret
    exact ⟨rfl, Below.refl _ _⟩
theorem lalike_calls (A : Option Addr) (n c : Nat) (A' : Option Addr) (n' c' : Nat) (X Y : List Rw) (w : World) (h : RdW w A n X) (h' : RdW w A' n' Y) (k : Nat) (s1 : ∀ r ∈ X, SzW k r) (s2 : ∀ r ∈ Y, SzW k r) (hk : k ≤ 10000000000) :
    Calls Try.prog 46 #[.slice A n c, .slice A' n' c', .func (.func 47) #[] #[]] w fun e w' => e = .returned (.bool (decide (X = Y))) ∧ Below w.heap.size w w' := by
  have HC := Lib.hid (leqrows_calls A n c A' n' c' X Y w h h' k s1 s2 hk)
  generalize decide (X = Y) = D at *
  go_enter Try.func46, Try.ntmps46
  go_wp2_with fail
  refine HC.out.mono ?_
  rintro e w1 ⟨rfl, hB1⟩
  go_wp2
  go_ret
  exact ⟨rfl, hB1⟩
end Go.Proofs.Ytjmbpeniibdnoaa

namespace Go.Proofs.Ytjmbpeniibdnoaa
open Go.RowKit

/-- What lin.Same hands back. -/
def samB (n : Int) (F G : List Fm) : Bool := if OkFs n F ∧ OkFs n G then ((rowsF n.toNat (F.map rowF)).isSome == (rowsF n.toNat (G.map rowF)).isSome) && decide ((rowsF n.toNat (F.map rowF)).getD [] = (rowsF n.toNat (G.map rowF)).getD []) else false
def samE (n : Int) (F G : List Fm) : Int := if OkFs n F ∧ OkFs n G then 0 else 1
theorem okf_getD {n : Nat} {F : List Fm} (h : OkFs n F) : ∀ q ∈ (rowsF n (F.map rowF)).getD [], SzW 17851 q := by
  cases e : rowsF n (F.map rowF) with
  | none => intro q hq; cases hq
  | some R => intro q hq; exact ((okf_R h e).2 q hq).2.2.2
set_option maxHeartbeats 40000000
set_option maxRecDepth 100000
theorem lsame_calls (n : Int) (A : Option Addr) (m c : Nat) (F : List Fm) (A' : Option Addr) (m' c' : Nat) (G : List Fm) (w : World) (h : RdF w A m F) (hi : ∀ f ∈ F, I64F f) (hl : ∀ f ∈ F, f.1.length ≤ 1000000) (hm : m ≤ 500) (h' : RdF w A' m' G) (hi' : ∀ f ∈ G, I64F f) (hl' : ∀ f ∈ G, f.1.length ≤ 1000000) (hm' : m' ≤ 500) :
    Calls Try.prog 15 #[.int .i64 n, .slice A m c, .slice A' m' c'] w fun e w' => e = .returned (.tuple #[.bool (samB n F G), .int .i64 (samE n F G)]) ∧ Below w.heap.size w w' := by
  have L := Lib.hid h.1
  have L' := Lib.hid h'.1
  have HI := Lib.hid hi
  have HL := Lib.hid hl
  have HI' := Lib.hid hi'
  have HL' := Lib.hid hl'
  have NO : ¬ (OkFs n F ∧ OkFs n G) → samB n F G = false ∧ samE n F G = 1 := fun hh => ⟨if_neg hh, if_neg hh⟩
  have YES : OkFs n F → OkFs n G → samB n F G = (((rowsF n.toNat (F.map rowF)).isSome == (rowsF n.toNat (G.map rowF)).isSome) && decide ((rowsF n.toNat (F.map rowF)).getD [] = (rowsF n.toNat (G.map rowF)).getD [])) ∧ samE n F G = 0 := fun h1 h2 => ⟨if_pos ⟨h1, h2⟩, if_pos ⟨h1, h2⟩⟩
  generalize samB n F G = sB at *
  generalize samE n F G = sE at *
  clear hi hl hi' hl'
  go_enter Try.func15, Try.ntmps15
  go_wp2_with fail
  refine (forms_calls n A m c F _ h).mono ?_
  rintro e w1 ⟨he, hB1⟩
  by_cases hok : OkFs n F
  · rw [decide_eq_true hok] at he
    subst he
    go_wp2_with fail
    refine (forms_calls n A' m' c' G _ (h'.below hB1)).mono ?_
    rintro e w2 ⟨he, hB2⟩
    have B0 := bl_then hB1 hB2
    clear hB1 hB2
    by_cases hok' : OkFs n G
    · rw [decide_eq_true hok'] at he
      subst he
      obtain ⟨nn, rfl⟩ : ∃ nn : Nat, n = nn := ⟨n.toNat, by have := hok.1.1; omega⟩
      obtain ⟨hy1, rfl⟩ := YES hok hok'
      rw [Int.toNat_natCast] at hy1
      have HY := Lib.hid hy1
      have HOK := Lib.hid hok
      have HOK' := Lib.hid hok'
      have hn8 : nn ≤ 8 := by have := hok.1.2; omega
      clear YES NO hok hok' hy1
      go_wp2_with fail
      refine (rows_calls A m c F _ (h.below B0) HI.out HL.out hm).mono ?_
      rintro e w3 ⟨⟨A2, c2, rfl, hr2⟩, hB3⟩
      replace B0 := bl_then B0 hB3
      clear hB3
      go_wp2_with fail
      refine (lrows_calls nn hn8 A2 m c2 (F.map rowF) _ hr2 hm (okf_rows HOK.out).1 17851 61 (okf_rows HOK.out).2.1 (fun kk hkk => (okf_rows HOK.out).2.2 kk (by rw [L.out]; exact hkk)) kR_a kR_b (by omega) (by omega)).mono ?_
      rintro e w4 ⟨⟨A3, m3, c3, he, hr3⟩, hB4⟩
      replace B0 := bl_then B0 hB4
      clear hB4 hr2
      have HZ1 := Lib.hid (okf_getD HOK.out)
      generalize (rowsF nn (F.map rowF)).isSome = d1 at *
      generalize (rowsF nn (F.map rowF)).getD [] = R1 at *
      subst he
      go_wp2_with fail
      refine (rows_calls A' m' c' G _ (h'.below B0) HI'.out HL'.out hm').mono ?_
      rintro e w5 ⟨⟨A4, c4, rfl, hr4⟩, hB5⟩
      replace B0 := bl_then B0 hB5
      replace hr3 := hr3.below hB5
      clear hB5
      go_wp2_with fail
      refine (lrows_calls nn hn8 A4 m' c4 (G.map rowF) _ hr4 hm' (okf_rows HOK'.out).1 17851 61 (okf_rows HOK'.out).2.1 (fun kk hkk => (okf_rows HOK'.out).2.2 kk (by rw [L'.out]; exact hkk)) kR_a kR_b (by omega) (by omega)).mono ?_
      rintro e w6 ⟨⟨A5, m5, c5, he, hr5⟩, hB6⟩
      replace B0 := bl_then B0 hB6
      replace hr3 := hr3.below hB6
      clear hB6 hr4
      have HZ2 := Lib.hid (okf_getD HOK'.out)
      generalize (rowsF nn (G.map rowF)).isSome = d2 at *
      generalize (rowsF nn (G.map rowF)).getD [] = R2 at *
      subst he
      by_cases hd : d1 = d2
      · subst hd
        have hdd : (d1 == d1) = true := by simp
        have hdd2 : decide (d1 = d1) = true := by simp
        rw [hdd, Bool.true_and] at HY
        go_wp2_with fail
        refine (lalike_calls A3 m3 c3 A5 m5 c5 R1 R2 _ hr3 hr5 17851 HZ1.out HZ2.out (by omega)).mono ?_
        rintro e w7 ⟨he, hB7⟩
        rw [← HY.out] at he
        subst he
        replace B0 := bl_then B0 hB7
        clear hB7 hr3 hr5 HY
        go_wp2
        go_ret2
        exact ⟨rfl, B0⟩
      · have hdd : (d1 == d2) = false := by simpa using hd
        have hdd2 : decide (d1 = d2) = false := decide_eq_false hd
        rw [hdd, Bool.false_and] at HY
        have hy := HY.out
        subst hy
        clear HY
        go_wp2
        go_ret2
        exact ⟨rfl, B0⟩
    · rw [decide_eq_false hok'] at he
      subst he
      obtain ⟨rfl, rfl⟩ := NO (fun hh => hok' hh.2)
      clear YES NO hok hok'
      go_wp2
      go_ret2
      exact ⟨rfl, B0⟩
  · rw [decide_eq_false hok] at he
    subst he
    obtain ⟨rfl, rfl⟩ := NO (fun hh => hok hh.1)
    clear YES NO hok
    go_wp2
    go_ret2
    exact ⟨rfl, hB1⟩
/-- The value of a form at a point. -/
def fvl (f : Fm) (x : List (Int × Int)) (n : Nat) : Rat := valK (rowF f) (x.map ratP) n
def zerF (F : List Fm) (x : List (Int × Int)) (n : Nat) : Prop := ∀ f ∈ F, fvl f x n = 0
instance (F : List Fm) (x : List (Int × Int)) (n : Nat) : Decidable (zerF F x n) := by unfold zerF; infer_instance
end Go.Proofs.Ytjmbpeniibdnoaa

namespace Go.Proofs.Ytjmbpeniibdnoaa
open Go.RowKit

def fewP (F : List Fm) : Prop := (∀ f ∈ F, f.1.length ≤ 40) ∧ F.length < 140
instance (F : List Fm) : Decidable (fewP F) := by unfold fewP; infer_instance
set_option maxHeartbeats 40000000
set_option maxRecDepth 100000
theorem lfew_calls (A : Option Addr) (m c : Nat) (F : List Fm) (w : World) (h : RdF w A m F) :
    Calls Try.prog 4 #[.slice A m c] w fun e w' => e = .returned (.bool (decide (fewP F))) ∧ Below w.heap.size w w' := by
  have L := Lib.hid h.1
  have hm := h.2.1
  generalize hD : decide (fewP F) = D
  have HD := Lib.hid hD
  clear hD
  go_enter Try.func4, Try.ntmps4
  go_wp2_with fail
  go_loopw [7] (fun i wr => ∃ kk : Nat, kk ≤ m ∧ i = .int .i64 kk ∧ (∀ j, j < kk → (F.getD j ([], 0)).1.length ≤ 40) ∧ Below w.heap.size w wr) (fun i _ => m - (intOf i).toNat)
  case atStart => exact ⟨0, Nat.zero_le _, rfl, fun j hj => absurd hj (by omega), Below.refl _ _⟩
  case round =>
    obtain ⟨kk, hkk, rfl, hall, B0⟩ := hrel
    have HALL := Lib.hid hall
    clear hall
    by_cases hlt : kk < m
    · obtain ⟨g, off, rfl, hg, hc⟩ := (h.below B0).2.2 (by omega)
      obtain ⟨A1, n1, c1, p1, p2, hr⟩ := hc kk hlt
      have HMEM := Lib.hid (mem_getD (d := (([], 0) : Fm)) (by rw [L.out]; exact hlt : kk < F.length))
      have hn1 : (F.getD kk ([], 0)).1.length = n1 := hr.1
      have HN1 := Lib.hid hn1
      have hn2 := hr.2.1
      clear hc h hr hn1
      generalize hff : F.getD kk ([], 0) = f at *
      have HFF := Lib.hid hff
      clear hff
      have B1 := bl_alloc B0 (.cells #[.slice A1 n1 c1, .int .i64 f.2] 30)
      by_cases h40 : n1 ≤ 40
      · have d1 : decide ((40 : Int) < (n1 : Int)) = false := decide_eq_false (by omega)
        have d2 : ¬ (40 : Int) < (n1 : Int) := by omega
        go_wp2
        go_roundw
        case rel =>
          refine ⟨kk + 1, hlt, by go_num, ?_, B1⟩
          intro j hj
          rcases Nat.lt_or_ge j kk with h1 | h1
          · exact HALL.out j h1
          · have : j = kk := by omega
            subst this
            rw [HFF.out, HN1.out]; exact h40
        case measure => simp [intOf]; omega
      · have d1 : decide ((40 : Int) < (n1 : Int)) = true := decide_eq_true (by omega)
        have d2 : (40 : Int) < (n1 : Int) := by omega
        have hd := HD.out
        rw [decide_eq_false (fun hh => h40 (by rw [← HN1.out]; exact hh.1 _ HMEM.out))] at hd
        subst hd
        go_wp2
        go_ret
        exact ⟨rfl, B1⟩
    · have hkn : m = kk := by omega
      subst hkn
      have hd := HD.out
      by_cases h140 : m < 140
      · rw [decide_eq_true ⟨all_of_getD (p := fun f : Fm => f.1.length ≤ 40) (d := (([], 0) : Fm)) fun j hj => HALL.out j (by rw [L.out] at hj; omega), by rw [L.out]; exact h140⟩] at hd
        subst hd
        have d1 : decide ((m : Int) < 140) = true := decide_eq_true (by omega)
        have d2 : (m : Int) < 140 := by omega
        go_wp2
        go_ret
        exact ⟨by first | rfl | simp [d1], B0⟩
      · rw [decide_eq_false (fun hh => h140 (by rw [← L.out]; exact hh.2))] at hd
        subst hd
        have d1 : decide ((m : Int) < 140) = false := decide_eq_false (by omega)
        go_wp2
        go_ret
        exact ⟨by first | rfl | simp [d1] | (simp; omega), B0⟩
end Go.Proofs.Ytjmbpeniibdnoaa

namespace Go.Proofs.Ytjmbpeniibdnoaa
open Go.RowKit

/-- A form with the constant 0. -/
def bareZ (f : Fm) : Fm := (f.1, 0)
def rkE (n : Int) (F : List Fm) : Int := if OkFs n F then 0 else 1

theorem getD_set1 {α : Type} (l : List α) (i : Nat) (x d : α) (h : i < l.length) : (l.set i x).getD i d = x := by
  rw [List.getD_eq_getElem?_getD, List.getElem?_set_self h]; rfl
theorem getD_set2 {α : Type} (l : List α) (i j : Nat) (x d : α) (h : i ≠ j) : (l.set j x).getD i d = l.getD i d := by
  rw [List.getD_eq_getElem?_getD, List.getElem?_set_ne (fun e => h e.symm), ← List.getD_eq_getElem?_getD]
theorem wcl_set4 (l : List WC) (j : Nat) : ((((wcl l).set (j * 6 + 1) (.int .i64 0)).set (j * 6 + 1 + 1) (.slice none 0 0)).set (j * 6 + 1 + 2) (.int .i64 0)).set (j * 6 + 1 + 3) (.slice none 0 0) = wcl (l.set j ⟨(l.getD j WC.zero).A, (l.getD j WC.zero).n, (l.getD j WC.zero).c, RC.zero, (l.getD j WC.zero).b⟩) := by
  induction l generalizing j with
  | nil => simp [wcl]
  | cons y l ih =>
    cases j with
    | zero => rfl
    | succ j =>
      have h2 : y.cells.length = 6 := rfl
      show ((((y.cells ++ wcl l).set ((j + 1) * 6 + 1) _).set _ _).set _ _).set _ _ = y.cells ++ wcl (l.set j _)
      have ih := ih j
      have e : (y :: l).getD (j + 1) WC.zero = l.getD j WC.zero := rfl
      rw [e, ← ih]
      rw [show (j + 1) * 6 + 1 = y.cells.length + (j * 6 + 1) by rw [h2]; omega]
      simp only [Nat.add_assoc, List.set_append_right _ _ (Nat.le_add_right _ _), Nat.add_sub_cancel_left]
def bareW (r : Rw) : Rw := (r.1, 0)
def mixW (t : Nat) (R : List Rw) : List Rw := (R.take t).map bareW ++ R.drop t
theorem mixW_at (t : Nat) (R : List Rw) (h : t < R.length) : (mixW t R).getD t ([], 0) = R.getD t ([], 0) := by
  unfold mixW
  rw [List.getD_eq_getElem?_getD, List.getElem?_append_right (by simp; omega), List.getElem?_drop]
  have : t + (t - ((R.take t).map bareW).length) = t := by simp; omega
  rw [this, ← List.getD_eq_getElem?_getD]
theorem mixW_set (t : Nat) (R : List Rw) (h : t < R.length) : (mixW t R).set t (bareW (R.getD t ([], 0))) = mixW (t + 1) R := by
  have hl : ((R.take t).map bareW).length = t := by simp; omega
  have eg : R.getD t ([], 0) = R[t] := by rw [List.getD_eq_getElem?_getD, List.getElem?_eq_getElem h]; rfl
  unfold mixW
  rw [List.set_append_right _ _ (by omega), hl, Nat.sub_self, eg]
  have e1 : R.drop t = R[t] :: R.drop (t + 1) := (List.getElem_cons_drop h).symm
  have e2 : (R.take (t + 1)).map bareW = (R.take t).map bareW ++ [bareW R[t]] := by
    rw [List.take_succ_eq_append_getElem h, List.map_append]; rfl
  rw [e1, e2, List.set_cons_zero, List.append_assoc]; rfl
/-- The constant of a row is set to 0. -/
def setW (w : World) (g o : Nat) : World := (((w.setCell ⟨g, o, none⟩ (.int .i64 0)).setCell ⟨g, o + 1, none⟩ (.slice none 0 0)).setCell ⟨g, o + 2, none⟩ (.int .i64 0)).setCell ⟨g, o + 3, none⟩ (.slice none 0 0)
theorem OwnW.blk {w : World} {base n g c : Nat} {R : List Rw} (h : OwnW w base (.slice (some ⟨g, 0, none⟩) n c) n R) : base ≤ g ∧ ∃ cs, w.heap[g]? = some (.cells cs 65 (0, 0)) := by
  obtain ⟨l, h1, _⟩ := h
  rcases h1.2 with ⟨h0, _⟩ | ⟨g', cap', cur, hv, hb, hg, r⟩
  · cases h0
  · cases hv; exact ⟨hb, cur, hg⟩
theorem OwnW.form {w : World} {base n : Nat} {v : Value} {R : List Rw} (h : OwnW w base v n R) : (v = .slice none 0 0 ∧ n = 0) ∨ ∃ g c, v = .slice (some ⟨g, 0, none⟩) n c := by
  obtain ⟨l, h1, _⟩ := h
  rcases h1.2 with h0 | ⟨g', cap', cur, hv, hb, hg, r⟩
  · exact .inl h0
  · exact .inr ⟨g', cap', hv⟩
theorem OwnW.set0 {w : World} {base n g c : Nat} {R : List Rw} (h : OwnW w base (.slice (some ⟨g, 0, none⟩) n c) n R) (j : Nat) (hj : j < n) : OwnW (setW w g (j * 6 + 1)) base (.slice (some ⟨g, 0, none⟩) n c) n (R.set j (bareW (R.getD j ([], 0)))) := by
  obtain ⟨_, cs, hb⟩ := h.blk
  obtain ⟨l, h1, h2, h3, h4⟩ := h
  have kp : ∀ t, 65 ≠ t → Kp t w (setW w g (j * 6 + 1)) := fun t ht =>
    ((((Kp.refl _ _).set (p := ⟨g, j * 6 + 1, none⟩) hb ht _).set (p := ⟨g, j * 6 + 1 + 1, none⟩) (blk_set hb (j * 6 + 1) _) ht _).set (p := ⟨g, j * 6 + 1 + 2, none⟩) (blk_set (blk_set hb (j * 6 + 1) _) (j * 6 + 1 + 1) _) ht _).set (p := ⟨g, j * 6 + 1 + 3, none⟩) (blk_set (blk_set (blk_set hb (j * 6 + 1) _) (j * 6 + 1 + 1) _) (j * 6 + 1 + 2) _) ht _
  refine ⟨l.set j ⟨(l.getD j WC.zero).A, (l.getD j WC.zero).n, (l.getD j WC.zero).c, RC.zero, (l.getD j WC.zero).b⟩, ?_, by simpa using h2, by simpa using h3, fun i hi => ?_⟩
  · rw [← wcl_set4]
    exact ((((h1.stored (j * 6 + 1) _).1.stored (j * 6 + 1 + 1) _).1.stored (j * 6 + 1 + 2) _).1.stored (j * 6 + 1 + 3) _).1
  · by_cases e : i = j
    · subst e
      rw [getD_set1 _ _ _ _ (by omega), getD_set1 _ _ _ _ (by omega)]
      exact ⟨RdQ.heap (h4 i hi).1 (kp _ (by decide)) (kp _ (by decide)), RC.zero_is _⟩
    · rw [getD_set2 _ _ _ _ _ e, getD_set2 _ _ _ _ _ e]
      exact ⟨RdQ.heap (h4 i hi).1 (kp _ (by decide)) (kp _ (by decide)), RC.Is.kp (h4 i hi).2 (kp _ (by decide))⟩
def lrkF (n : Int) (F : List Fm) : Int := if OkFs n F then (((rowsF n.toNat ((F.map bareZ).map rowF)).getD []).length : Int) else 0
theorem bare_rows (F : List Fm) : (F.map rowF).map bareW = (F.map bareZ).map rowF := by
  rw [List.map_map, List.map_map]
  refine List.map_congr_left fun f _ => ?_
  show ((rowF f).1, (0 : Rat)) = ((rowF (f.1, 0)).1, ((0 : Int) : Rat))
  rfl
theorem okfs_bare {n : Int} {F : List Fm} (h : OkFs n F) : OkFs n (F.map bareZ) := by
  refine ⟨h.1, by simpa using h.2.1, fun f hf => ?_⟩
  obtain ⟨y, hy, rfl⟩ := List.mem_map.1 hf
  exact ⟨(h.2.2 y hy).1, (h.2.2 y hy).2.1, by unfold mid; simp [bareZ], (h.2.2 y hy).2.2.2⟩
set_option maxHeartbeats 40000000
set_option maxRecDepth 100000
theorem rowsO_calls (A : Option Addr) (m c : Nat) (F : List Fm) (w : World) (h : RdF w A m F) (hi : ∀ f ∈ F, I64F f) (hl : ∀ f ∈ F, f.1.length ≤ 1000000) (hm : m ≤ 500) :
    Calls Try.prog 40 #[.slice A m c] w fun e w' => (∃ v, e = .returned v ∧ OwnW w' w.heap.size v m (F.map rowF)) ∧ Below w.heap.size w w' := by
  have L := Lib.hid h.1
  have HI := Lib.hid hi
  have HL := Lib.hid hl
  clear hi hl
  go_enter Try.func40, Try.ntmps40
  have O0 := OwnW.nil w w.heap.size
  have B0 := Below.refl w.heap.size w
  go_wp2_with fail
  go_loopw [3, 8] (fun v i wr => ∃ kk : Nat, kk ≤ m ∧ i = .int .i64 kk ∧ OwnW wr w.heap.size v kk ((F.take kk).map rowF) ∧ Below w.heap.size w wr) (fun _ i _ => m - (intOf i).toNat)
  case atStart => exact ⟨0, Nat.zero_le _, rfl, O0, B0⟩
  case round =>
    clear O0 B0
    obtain ⟨kk, hkk, rfl, OW, B0⟩ := hrel
    by_cases hlt : kk < m
    · obtain ⟨g, off, rfl, hg, hc⟩ := (h.below B0).2.2 (by omega)
      obtain ⟨A1, n1, c1', c1, c2, c3⟩ := hc kk hlt
      have hmem : F.getD kk ([], 0) ∈ F := mem_getD (by rw [L.out]; exact hlt)
      have h64 := HI.out _ hmem
      have hlen := HL.out _ hmem
      have E := Lib.hid (map_take_succ rowF F ([], 0) kk (by rw [L.out]; exact hlt))
      clear hc hmem
      generalize F.getD kk ([], 0) = f1 at *
      have c4 := c3.below (bl_alloc (Below.refl _ _) (.cells #[.slice A1 n1 c1', .int .i64 f1.2] 30))
      have c5 := Lib.hid c4.1
      replace OW := OW.below (bl_alloc (Below.refl _ _) (.cells #[.slice A1 n1 c1', .int .i64 f1.2] 30))
      replace B0 := bl_alloc B0 (.cells #[.slice A1 n1 c1', .int .i64 f1.2] 30)
      go_wp2_with fail
      refine (lrow_calls A1 n1 c1' f1 _ c4 h64 (by rw [← c5.out]; exact hlen)).mono ?_
      rintro e w1 ⟨⟨A2, n2, c2', x2, rfl, t2⟩, hB1⟩
      replace OW := OW.below hB1
      replace B0 := bl_then B0 hB1
      clear hB1 c1 c2 c3 c4 hg
      have r2 := RdW.one (c := c2') (b := false) t2
      replace OW := OW.below (bl_alloc (Below.refl _ _) (.cells #[.slice A2 n2 c2', .int .i64 x2.v, .slice x2.A x2.n x2.c, .int .i64 x2.v', .slice x2.A' x2.n' x2.c', .bool false] 65))
      have B1 := bl_alloc B0 (.cells #[.slice A2 n2 c2', .int .i64 x2.v, .slice x2.A x2.n x2.c, .int .i64 x2.v', .slice x2.A' x2.n' x2.c', .bool false] 65)
      obtain ⟨v', W', hrun, O2, hgr⟩ := appw (c := 1) OW r2 (by omega) (by omega) (by intro h; cases h) B1.size
      rw [← E.out] at O2
      have HR := Lib.hid hrun
      have HO := Lib.hid O2
      have hOB : ∀ b, u3.ownBlock = some b → w.heap.size ≤ b := fun b hb => (OW.choose_spec.1.lt b hb).1
      have V2 : Hid (Below w.heap.size w W') := Lib.hid (below_of_grown B1 hgr B1.size (fun b hb => by have := hOB b hb; omega))
      clear hrun O2 hgr hOB OW r2
      go_wp2_with (at_builtin; refine wpList_ap rfl (.tmp 12) (.tmp 15) 85 (by rfl) _ _ (by rfl) (by rfl) _ (by rfl) _ _ HR.out ?_)
      go_roundw
      case rel => exact ⟨kk + 1, hlt, by go_num, HO.out, V2.out⟩
      case measure => simp [intOf]; omega
    · have hkn : kk = m := by omega
      subst hkn
      rw [List.take_of_length_le (by rw [L.out]; exact Nat.le_refl _)] at OW
      have HRD := Lib.hid OW
      clear OW
      go_wp2
      go_ret
      exact ⟨⟨_, rfl, HRD.out⟩, B0⟩
theorem lrank_calls (n : Int) (A : Option Addr) (m c : Nat) (F : List Fm) (w : World) (h : RdF w A m F) (hi : ∀ f ∈ F, I64F f) (hl : ∀ f ∈ F, f.1.length ≤ 1000000) (hm : m ≤ 500) :
    Calls Try.prog 14 #[.int .i64 n, .slice A m c] w fun e w' => e = .returned (.tuple #[.int .i64 (lrkF n F), .int .i64 (rkE n F)]) ∧ Below w.heap.size w w' := by
  have L := Lib.hid h.1
  have HI := Lib.hid hi
  have HL := Lib.hid hl
  have NO : ¬ OkFs n F → lrkF n F = 0 ∧ rkE n F = 1 := fun hh => ⟨if_neg hh, if_neg hh⟩
  have YES : OkFs n F → lrkF n F = (((rowsF n.toNat ((F.map bareZ).map rowF)).getD []).length : Int) ∧ rkE n F = 0 := fun h1 => ⟨if_pos h1, if_pos h1⟩
  generalize lrkF n F = sB at *
  generalize rkE n F = sE at *
  clear hi hl
  go_enter Try.func14, Try.ntmps14
  go_wp2_with fail
  refine (forms_calls n A m c F _ h).mono ?_
  rintro e w1 ⟨he, B0⟩
  by_cases hok : OkFs n F
  · rw [decide_eq_true hok] at he
    subst he
    obtain ⟨nn, rfl⟩ : ∃ nn : Nat, n = nn := ⟨n.toNat, by have := hok.1.1; omega⟩
    obtain ⟨hy1, rfl⟩ := YES hok
    rw [Int.toNat_natCast] at hy1
    have HY := Lib.hid hy1
    have HOK := Lib.hid (okfs_bare hok)
    have hn8 : nn ≤ 8 := by have := hok.1.2; omega
    clear YES NO hok hy1
    go_wp2_with fail
    refine (rowsO_calls A m c F _ (h.below B0) HI.out HL.out hm).mono ?_
    rintro e w3 ⟨⟨v3, rfl, O3⟩, hB3⟩
    have hbs : w.heap.size ≤ w1.heap.size := B0.size
    replace B0 := bl_then B0 hB3
    have HLR : Hid ((F.map rowF).length = m) := Lib.hid (by simpa using L.out)
    have HBR := Lib.hid (bare_rows F)
    clear hB3
    generalize F.map rowF = R at *
    generalize w1.heap.size = bs at *
    have hform := O3.form
    obtain ⟨A3, c3, rfl, hA3⟩ : ∃ A c, v3 = .slice A m c ∧ (0 < m → ∃ g, A = some ⟨g, 0, none⟩) := by
      rcases hform with ⟨rfl, rfl⟩ | ⟨g, c, rfl⟩
      · exact ⟨none, 0, rfl, fun h => absurd h (by omega)⟩
      · exact ⟨_, c, rfl, fun _ => ⟨g, rfl⟩⟩
    clear hform
    go_wp2_with fail
    go_loopw [18] (fun i wr => ∃ kk : Nat, kk ≤ m ∧ i = .int .i64 kk ∧ OwnW wr bs (.slice A3 m c3) m (mixW kk R) ∧ Below w.heap.size w wr) (fun i _ => m - (intOf i).toNat)
    case atStart => exact ⟨0, Nat.zero_le _, rfl, O3, B0⟩
    case round =>
      clear O3 B0
      obtain ⟨kk, hkk, rfl, OW, B0⟩ := hrel
      by_cases hlt : kk < m
      · obtain ⟨g, rfl⟩ := hA3 (by omega)
        obtain ⟨hbg, cs, hcs⟩ := OW.blk
        have hex : ∀ i, i < 6 → ∃ u, wr.cell? ⟨g, kk * 6 + i, none⟩ = some u := fun i hi => by
          obtain ⟨l, h1, h2, _⟩ := OW
          have e := h1.cellAt (kk * 6 + i) (by omega)
          have e2 := wcl_at l kk i (by omega) hi
          have e3 : ((l.getD kk WC.zero).cells)[i]? = some (((l.getD kk WC.zero).cells)[i]'(show i < 6 from hi)) := List.getElem?_eq_getElem _
          exact ⟨_, e.trans (e2.trans e3)⟩
        obtain ⟨x1, c1⟩ := hex 1 (by omega)
        obtain ⟨x2, c2⟩ := hex 2 (by omega)
        obtain ⟨x3, c3'⟩ := hex 3 (by omega)
        obtain ⟨x4, c4⟩ := hex 4 (by omega)
        have f1 := (blk_cell hcs (kk * 6 + 1)).2
        have f2 := (blk_cell hcs (kk * 6 + 2)).2
        have f3 := (blk_cell hcs (kk * 6 + 3)).2
        have f4 := (blk_cell hcs (kk * 6 + 4)).2
        have Y1 := OW.set0 kk hlt
        rw [mixW_at kk R (by rw [HLR.out]; exact hlt), mixW_set kk R (by rw [HLR.out]; exact hlt)] at Y1
        have HY1 := Lib.hid Y1
        have HY2 : Hid (Below w.heap.size w (setW wr g (kk * 6 + 1))) := Lib.hid ((((B0.setCell (p := ⟨g, kk * 6 + 1, none⟩) (Nat.le_trans hbs hbg) _).setCell (p := ⟨g, kk * 6 + 1 + 1, none⟩) (Nat.le_trans hbs hbg) _).setCell (p := ⟨g, kk * 6 + 1 + 2, none⟩) (Nat.le_trans hbs hbg) _).setCell (p := ⟨g, kk * 6 + 1 + 3, none⟩) (Nat.le_trans hbs hbg) _)
        have hk0 : (0 : Int) ≤ (kk : Int) := by omega
        have hkn : (kk : Int) < (m : Int) := by omega
        clear Y1 OW B0 hex hcs
        go_wp2_with fail
        go_roundw
        case rel => exact ⟨kk + 1, hlt, by go_num, HY1.out, HY2.out⟩
        case measure => simp [intOf]; omega
      · have hkn : m = kk := by omega
        subst hkn
        have e : mixW m R = R.map bareW := by unfold mixW; rw [List.take_of_length_le (by rw [HLR.out]; exact Nat.le_refl _), List.drop_eq_nil_of_le (by rw [HLR.out]; exact Nat.le_refl _), List.append_nil]
        rw [e, HBR.out] at OW
        obtain ⟨A', c', e', hrd⟩ := OW.rd (by omega)
        cases e'
        have LM : Hid ((F.map bareZ).length = m) := Lib.hid (by rw [List.length_map]; exact L.out)
        clear OW e
        go_wp2_with fail
        refine (lrows_calls nn hn8 A3 m c3 ((F.map bareZ).map rowF) _ hrd hm (okf_rows HOK.out).1 17851 61 (okf_rows HOK.out).2.1 (fun kk hkk => (okf_rows HOK.out).2.2 kk (by rw [LM.out]; exact hkk)) kR_a kR_b (by omega) (by omega)).mono ?_
        rintro e w4 ⟨⟨A4, m4, c4, he, hr4⟩, hB4⟩
        replace B0 := bl_then B0 hB4
        have hlen := hr4.1
        have hm4 := hr4.2.1
        clear hB4 hrd hr4
        generalize (rowsF nn ((F.map bareZ).map rowF)).isSome = d1 at *
        have hsB : sB = (m4 : Int) := by rw [HY.out, hlen]
        subst hsB he
        clear HY hlen
        go_wp2
        go_ret2
        exact ⟨rfl, B0⟩
  · rw [decide_eq_false hok] at he
    subst he
    obtain ⟨rfl, rfl⟩ := NO hok
    clear YES NO hok
    go_wp2
    go_ret2
    exact ⟨rfl, B0⟩
end Go.Proofs.Ytjmbpeniibdnoaa

namespace Go.Proofs.Ytjmbpeniibdnoaa
open Go.RowKit

theorem rowF_len (r : Fm) : (rowF r).1.length = r.1.length := by simp [rowF]
def ratQ (x : Int × Int) : Rat := Rat.divInt x.1 x.2
/-- The sum of the first k products. -/
def smK (n : Nat) (F : List Fm) (M : List (Int × Int)) : Nat → Rw
  | 0 => (List.replicate n 0, 0)
  | k + 1 => pls (smK n F M k) (tms (rowF (F.getD k ([], 0))) (ratQ (M.getD k (0, 0))))
def cbQ (n : Nat) (F : List Fm) (M : List (Int × Int)) : List Rat := (smK n F M F.length).1 ++ [(smK n F M F.length).2] ++ [1]
theorem smK_len {n : Nat} {F : List Fm} (M : List (Int × Int)) (hF : ∀ j, j < F.length → (F.getD j ([], 0)).1.length = n) (k : Nat) (hk : k ≤ F.length) : (smK n F M k).1.length = n := by
  induction k with
  | zero => exact List.length_replicate ..
  | succ k ih =>
    have h1 := ih (by omega)
    show (pls _ _).1.length = n
    rw [pls_len _ _ (by rw [tms_len, rowF_len, hF k (by omega), h1])]
    exact h1

end Go.Proofs.Ytjmbpeniibdnoaa

namespace Go.Proofs.Ytjmbpeniibdnoaa
open Go.RowKit

theorem results_cell_tmp2_row {P : Program} {fn : Func} {p1 p2 p3 : Tmp} {ty1 : TypeId} (h : fn.results = #[.cell p1 ty1, .tmp p2, .tmp p3]) (tmps : Array Value) (w : World) (g1 : Nat) (t1 : TypeId) (cs1 : Array Value) (fr1 : Nat × Nat) (d1 : TypeDesc) (v v' : Value)
    (hp1 : tmps.getD p1 undef = .pointer (some ⟨g1, 0, none⟩)) (hg1 : w.heap[g1]? = some (.cells cs1 t1 fr1))
    (hu1 : P.underlying ty1 = some d1) (hd1 : (match d1 with | .struct _ | .array _ _ => true | _ => false) = true) (hi1 : (P.info? ty1).map (·.size) = some cs1.size)
    (hp2 : tmps.getD p2 undef = v) (hp3 : tmps.getD p3 undef = v') :
    (results fn tmps).run P w = .ok (.tuple #[.agg cs1, v, v']) w := by
  have hp1' : tmps[p1]?.getD undef = .pointer (some ⟨g1, 0, none⟩) := by simpa using hp1
  have hp2' : tmps[p2]?.getD undef = v := by simpa using hp2
  have hp3' : tmps[p3]?.getD undef = v' := by simpa using hp3
  simp [results, h, hp1', hp2', hp3', asAddr, run_loadVar_row w g1 t1 ty1 cs1 fr1 d1 hg1 hu1 hd1 hi1]

end Go.Proofs.Ytjmbpeniibdnoaa

namespace Go.Proofs.Ytjmbpeniibdnoaa
open Go.RowKit

/-- What lin.Combine hands back. -/
def cbF (n : Int) (F : List Fm) (M : List (Int × Int)) : Fm × Int × Int :=
  if OkFs n F ∧ OkNs M then
    if F.length = M.length then
      if ∀ z ∈ scl (cbQ n.toNat F M), mid z then (((scl (cbQ n.toNat F M)).take n.toNat, (scl (cbQ n.toNat F M)).getD n.toNat 0), (scl (cbQ n.toNat F M)).getD (n.toNat + 1) 0, 0)
      else (([], 0), 0, 3)
    else (([], 0), 0, 2)
  else (([], 0), 0, 1)
theorem Kind.Own.base2 {α β : Type} {K : Kind α β} {w : World} {b b' n : Nat} {v : Value} {R : List β} (h : K.Own w b v n R) (hb : b' ≤ b) : K.Own w b' v n R := by
  obtain ⟨l, h1, h2⟩ := h
  refine ⟨l, ⟨h1.1, ?_⟩, h2⟩
  rcases h1.2 with h0 | ⟨g, cap, cur, hv, hbg, r⟩
  · exact .inl h0
  · exact .inr ⟨g, cap, cur, hv, by omega, r⟩
theorem cell_farN (w : World) {g k : Nat} (hk : k ≠ g) (x y : Value) (i : Nat) : ((w.setCell ⟨g, 0, none⟩ x).setCell ⟨g, 1, none⟩ y).cell? ⟨k, i, none⟩ = w.cell? ⟨k, i, none⟩ := by
  have e1 : (w.setCell ⟨g, 0, none⟩ x).heap[k]? = w.heap[k]? := heap_setCell_other _ _ _ _ hk
  have e2 : ((w.setCell ⟨g, 0, none⟩ x).setCell ⟨g, 1, none⟩ y).heap[k]? = (w.setCell ⟨g, 0, none⟩ x).heap[k]? := heap_setCell_other _ _ _ _ hk
  have e := e2.trans e1
  generalize (w.setCell ⟨g, 0, none⟩ x).setCell ⟨g, 1, none⟩ y = W at *
  simp [World.cell?, e]
theorem kp_under {W W' : World} {g : Nat} {cs : Array Value} {T t : TypeId} (hs : W.heap.size = g + 1) (hg : W.heap[g]? = some (.cells cs T (0, 0))) (hb : Below g W W') (ht : T ≠ t) : Kp t W W' := ⟨fun b cs' fr h => by
  have hlt := blk_lt h
  have : b ≠ g := fun e => by
    subst e
    rw [hg] at h
    cases h
    exact ht rfl
  exact (hb.block b (by omega)).trans h⟩
theorem zip_at (l1 l2 : List Rat) (q : Rat) (j : Nat) (a1 : j < l1.length) (a2 : j < l2.length) : (List.zipWith (· + ·) l1 (l2.map (· * q))).getD j 0 = l1.getD j 0 + l2.getD j 0 * q := by
  have a3 : j < (List.zipWith (· + ·) l1 (l2.map (· * q))).length := by simp; omega
  rw [List.getD_eq_getElem?_getD, List.getElem?_eq_getElem a3, List.getD_eq_getElem?_getD, List.getElem?_eq_getElem a1, List.getD_eq_getElem?_getD, List.getElem?_eq_getElem a2]
  simp
theorem smK_sz {n : Nat} {F : List Fm} {M : List (Int × Int)} (hF : ∀ j, j < F.length → (F.getD j ([], 0)).1.length = n ∧ SzW 61 (rowF (F.getD j ([], 0)))) (hM : ∀ j, SzR 61 (ratQ (M.getD j (0, 0)))) (k : Nat) (hk : k ≤ F.length) : SzW (1 + 123 * k) (smK n F M k) := by
  induction k with
  | zero =>
    have z : SzR 1 0 := ⟨by unfold Sz; decide, by unfold Sz; decide⟩
    refine ⟨fun j => ?_, z⟩
    show SzR 1 ((List.replicate n (0 : Rat)).getD j 0)
    rw [List.getD_eq_getElem?_getD, List.getElem?_replicate]
    split <;> exact z
  | succ k ih =>
    have ih := ih (by omega)
    have hl := smK_len M (fun j hj => (hF j hj).1) k (by omega)
    obtain ⟨h1, h2⟩ := hF k (by omega)
    have hq := hM k
    refine ⟨fun j => ?_, ?_⟩
    · show SzR _ ((List.zipWith (· + ·) (smK n F M k).1 ((rowF (F.getD k ([], 0))).1.map (· * ratQ (M.getD k (0, 0))))).getD j 0)
      rcases Nat.lt_or_ge j n with hj | hj
      · have e := zip_at (smK n F M k).1 (rowF (F.getD k ([], 0))).1 (ratQ (M.getD k (0, 0))) j (by omega) (by rw [rowF_len]; omega)
        rw [e]
        exact (qsz_add (ih.1 j) (qsz_mul (h2.1 j) hq)).mono (by omega)
      · rw [List.getD_eq_getElem?_getD, List.getElem?_eq_none (by simp [hl, rowF_len, h1]; omega)]
        exact SzR.mono (k := 1) ⟨by unfold Sz; decide, by unfold Sz; decide⟩ (by omega)
    · show SzR _ ((smK n F M k).2 + (rowF (F.getD k ([], 0))).2 * ratQ (M.getD k (0, 0)))
      exact (qsz_add ih.2 (qsz_mul h2.2 hq)).mono (by omega)
set_option maxHeartbeats 40000000
set_option maxRecDepth 100000
theorem lcomb_calls (n : Int) (A : Option Addr) (m c : Nat) (F : List Fm) (A' : Option Addr) (m' c' : Nat) (M : List (Int × Int)) (w : World) (h : RdF w A m F) (hi : ∀ f ∈ F, I64F f) (hl : ∀ f ∈ F, f.1.length ≤ 1000000) (hm : m ≤ 500) (h' : RdN w A' m' M) (hi' : I64s M) :
    Calls Try.prog 11 #[.int .i64 n, .slice A m c, .slice A' m' c'] w fun e w' => (∃ v, e = .returned (.tuple #[v, .int .i64 (cbF n F M).2.1, .int .i64 (cbF n F M).2.2]) ∧ FmB w.heap.size v w' (cbF n F M).1) ∧ Below w.heap.size w w' := by
  have L := Lib.hid h.1
  have L' := Lib.hid h'.1
  have HI := Lib.hid hi
  have HI' := Lib.hid hi'
  have HL := Lib.hid hl
  have hm'63 := h'.2.1
  have NO : ¬ (OkFs n F ∧ OkNs M) → cbF n F M = (([], 0), 0, 1) := fun hh => if_neg hh
  have DIM : OkFs n F → OkNs M → F.length ≠ M.length → cbF n F M = (([], 0), 0, 2) := fun h1 h2 hh => by unfold cbF; rw [if_pos ⟨h1, h2⟩, if_neg hh]
  have FULL : OkFs n F → OkNs M → F.length = M.length → ¬ (∀ z ∈ scl (cbQ n.toNat F M), mid z) → cbF n F M = (([], 0), 0, 3) := fun h1 h2 hh h3 => by unfold cbF; rw [if_pos ⟨h1, h2⟩, if_pos hh, if_neg h3]
  have YES : OkFs n F → OkNs M → F.length = M.length → (∀ z ∈ scl (cbQ n.toNat F M), mid z) → cbF n F M = (((scl (cbQ n.toNat F M)).take n.toNat, (scl (cbQ n.toNat F M)).getD n.toNat 0), (scl (cbQ n.toNat F M)).getD (n.toNat + 1) 0, 0) := fun h1 h2 hh h3 => by unfold cbF; rw [if_pos ⟨h1, h2⟩, if_pos hh, if_pos h3]
  generalize cbF n F M = E9 at *
  clear hi hl hi'
  go_enter Try.func11, Try.ntmps11
  have B0 := bl_alloc (Below.refl w.heap.size w) (.cells #[.slice none 0 0, .int .i64 0] 30)
  have az : (w.alloc (.cells #[.slice none 0 0, .int .i64 0] 30)).heap[w.heap.size]? = some (.cells #[.slice none 0 0, .int .i64 0] 30 (0, 0)) := blk_at _ rfl
  go_wp2_with fail
  refine (forms_calls n A m c F _ (h.below B0)).mono ?_
  rintro e w1 ⟨he, hB1⟩
  replace az := blk_below az hB1
  replace B0 := bl_then B0 hB1
  clear hB1
  by_cases hok : OkFs n F
  · rw [decide_eq_true hok] at he
    subst he
    go_wp2_with fail
    refine (allnum_calls A' m' c' M _ (h'.below B0) HI'.out).mono ?_
    rintro e w2 ⟨he, hB2⟩
    replace az := blk_below az hB2
    replace B0 := bl_then B0 hB2
    clear hB2
    by_cases hok' : OkNs M
    · rw [decide_eq_true hok'] at he
      subst he
      obtain ⟨n, rfl⟩ : ∃ nn : Nat, n = nn := ⟨n.toNat, by have := hok.1.1; omega⟩
      rw [Int.toNat_natCast] at FULL YES
      by_cases hmm : m = m'
      · subst hmm
        have hFM : F.length = M.length := by rw [L.out, L'.out]
        have HYES := Lib.hid (YES hok hok' hFM)
        have HFULL := Lib.hid (FULL hok hok' hFM)
        have HOK := Lib.hid hok
        have HOK' := Lib.hid hok'
        have hn8 : n ≤ 8 := by have := hok.1.2; omega
        have hm120 : m ≤ 120 := by have := hok.2.1; rw [L.out] at this; exact this
        have HFL : Hid (∀ j, j < F.length → (F.getD j ([], 0)).1.length = n ∧ SzW 61 (rowF (F.getD j ([], 0)))) := Lib.hid fun j hj => by
          have hf := hok.2.2 _ (mem_getD (d := (([], 0) : Fm)) hj)
          exact ⟨by have := hf.2.1; omega, rowF_sz hf⟩
        have HMQ : Hid (∀ j, SzR 61 (ratQ (M.getD j (0, 0)))) := Lib.hid fun j => by
          rcases Nat.lt_or_ge j M.length with hj | hj
          · exact ratP_sz (hok' _ (mem_getD (d := ((0, 0) : Int × Int)) hj))
          · rw [List.getD_eq_getElem?_getD, List.getElem?_eq_none hj]
            exact ⟨by show Sz 61 (Rat.divInt 0 0).num; unfold Sz; decide, by show Sz 61 ((Rat.divInt 0 0).den : Int); unfold Sz; decide⟩
        have HSZ : Hid (∀ k, k ≤ m → (smK n F M k).1.length = n ∧ SzW 20000 (smK n F M k)) := Lib.hid fun k hk => ⟨smK_len M (fun j hj => (HFL.out j hj).1) k (by rw [L.out]; exact hk), by
          have := smK_sz HFL.out HMQ.out k (by rw [L.out]; exact hk)
          exact ⟨fun j => (this.1 j).mono (by omega), this.2.mono (by omega)⟩⟩
        clear NO DIM YES FULL hok hok' hFM
        obtain ⟨cs, hcs, qm⟩ := made_q n (by omega)
        have OQ := OwnQ.made_at (W := w2) (base := w.heap.size) (g := w2.heap.size) n rfl B0.size (by omega) cs hcs
        have B1 := bl_alloc (bl_alloc B0 (.cells cs 63)) (.cells #[.slice (some ⟨w2.heap.size, 0, none⟩) n n, .int .i64 0, .slice none 0 0, .int .i64 0, .slice none 0 0, .bool false] 65)
        have az1 := blk_alloc (blk_alloc az (.cells cs 63)) (.cells #[.slice (some ⟨w2.heap.size, 0, none⟩) n n, .int .i64 0, .slice none 0 0, .int .i64 0, .slice none 0 0, .bool false] 65)
        have RB : RwB ((w2.alloc (.cells cs 63)).alloc (.cells #[.slice (some ⟨w2.heap.size, 0, none⟩) n n, .int .i64 0, .slice none 0 0, .int .i64 0, .slice none 0 0, .bool false] 65)) (w2.heap.size + 1) n (smK n F M 0) := ⟨_, _, _, _, blk_at _ (by simp), (OQ.rd (by omega)).below (bl_alloc (Below.refl _ _) _), RC.zero_is _⟩
        have lzw := blk_lt az
        go_wp2_with fail
        clear qm OQ
        have hg9w : w.heap.size ≠ w2.heap.size + 1 := by omega
        have hgb : w.heap.size ≤ w2.heap.size + 1 := by omega
        generalize w2.heap.size + 1 = g9 at *
        go_loopw [40] (fun i wr => ∃ kk : Nat, kk ≤ m ∧ i = .int .i64 kk ∧ RwB wr g9 n (smK n F M kk) ∧ wr.heap[w.heap.size]? = some (.cells #[.slice none 0 0, .int .i64 0] 30 (0, 0)) ∧ Below w.heap.size w wr) (fun i _ => m - (intOf i).toNat)
        case atStart => exact ⟨0, Nat.zero_le _, rfl, RB, az1, B1⟩
        case round =>
          clear RB az1 B1 az B0
          obtain ⟨kk, hkk, rfl, RB, az, B0⟩ := hrel
          by_cases hlt : kk < m
          · obtain ⟨g, off, rfl, hg, hc⟩ := (h.below B0).2.2 (by omega)
            obtain ⟨A1, n1, c1, p1, p2, c3⟩ := hc kk hlt
            obtain ⟨gm, om, rfl, lgm, hcm⟩ := (h'.below B0).2.2 (by omega)
            obtain ⟨pm1, pm2⟩ := hcm kk hlt
            have hmemM : M.getD kk (0, 0) ∈ M := mem_getD (by rw [L'.out]; exact hlt)
            have hmemF : F.getD kk ([], 0) ∈ F := mem_getD (by rw [L.out]; exact hlt)
            have mb := HI'.out _ hmemM
            have h64 := HI.out _ hmemF
            have HLN := Lib.hid (HFL.out kk (by rw [L.out]; exact hlt)).1
            have HRS := Lib.hid (HFL.out kk (by rw [L.out]; exact hlt)).2
            have HQS := Lib.hid (HMQ.out kk)
            have hml : (M.getD kk (0, 0)).2 ≠ 0 := by have := (HOK'.out _ hmemM).1; omega
            obtain ⟨hsl, hsm⟩ := HSZ.out kk (by omega)
            have HSL := Lib.hid hsl
            have HSM := Lib.hid hsm
            have HSX : Hid (pls (smK n F M kk) (tms (rowF (F.getD kk ([], 0))) (ratQ (M.getD kk (0, 0)))) = smK n F M (kk + 1)) := Lib.hid rfl
            have HTS : Hid (SzW 20000 (tms (rowF (F.getD kk ([], 0))) (ratQ (M.getD kk (0, 0))))) := Lib.hid ⟨fun j => by
              rcases Nat.lt_or_ge j (rowF (F.getD kk ([], 0))).1.length with hj | hj
              · have e : (tms (rowF (F.getD kk ([], 0))) (ratQ (M.getD kk (0, 0)))).1.getD j 0 = (rowF (F.getD kk ([], 0))).1.getD j 0 * ratQ (M.getD kk (0, 0)) := getD_map (· * ratQ (M.getD kk (0, 0))) _ j 0 0 hj
                rw [e]; exact (qsz_mul (HRS.out.1 j) HQS.out).mono (by omega)
              · rw [List.getD_eq_getElem?_getD, List.getElem?_eq_none (by rw [tms_len]; exact hj)]
                exact SzR.mono (k := 1) ⟨by unfold Sz; decide, by unfold Sz; decide⟩ (by omega), (qsz_mul HRS.out.2 HQS.out).mono (by omega)⟩
            have HPL : Hid ((tms (rowF (F.getD kk ([], 0))) (ratQ (M.getD kk (0, 0)))).1.length = (smK n F M kk).1.length) := Lib.hid (by rw [tms_len, rowF_len, HLN.out, hsl])
            clear hc hcm hmemM hmemF hsl hsm
            generalize F.getD kk ([], 0) = f1 at *
            generalize hMk : M.getD kk (0, 0) = mk at *
            clear hMk
            obtain ⟨mt, ml⟩ := mk
            dsimp only at pm1 pm2 mb hml
            generalize smK n F M kk = sm at *

            have hk0 : (0 : Int) ≤ (kk : Int) := by omega
            have hkn : (kk : Int) < (m : Int) := by omega
            have hn1 : n = n1 := HLN.out.symm.trans c3.1
            subst hn1
            have c4 := c3.below (bl_alloc (Below.refl _ _) (.cells #[.slice A1 n c1, .int .i64 f1.2] 30))
            have a11 : (wr.alloc (.cells #[.slice A1 n c1, .int .i64 f1.2] 30)).heap[wr.heap.size]? = some (.cells #[.slice A1 n c1, .int .i64 f1.2] 30 (0, 0)) := blk_at _ rfl
            have BX : Below wr.heap.size wr (wr.alloc (.cells #[.slice A1 n c1, .int .i64 f1.2] 30)) := bl_alloc (Below.refl _ _) _
            replace RB := RB.below BX
            replace az := blk_below az BX
            replace B0 := bl_then B0 BX
            have pm1 := ((cells_below BX).1 _ _ lgm).trans pm1
            have pm2 := ((cells_below BX).1 _ _ lgm).trans pm2
            replace lgm := Nat.lt_of_lt_of_le lgm BX.size
            go_upto_region 9 with (fail)
            clear c3 BX p1 p2 hg
            generalize wr.heap.size = g11 at *
            generalize wr.alloc (.cells #[.slice A1 n c1, .int .i64 f1.2] 30) = W9 at *
            obtain ⟨A9, c9, x9, b9, a9, t9⟩ := RB
            have lg9 := blk_lt a9
            have cmB : ∀ W, Below W9.heap.size W9 W → W.cell? ⟨gm, om + kk * 2, none⟩ = some (Value.int .i64 mt) ∧ W.cell? ⟨gm, om + kk * 2 + 1, none⟩ = some (Value.int .i64 ml) := fun W hB => ⟨((cells_below hB).1 _ _ lgm).trans pm1, ((cells_below hB).1 _ _ lgm).trans pm2⟩
            have H0 : Below W9.heap.size W9 W9.drew := bl_drew (Below.refl _ _)
            have a9_0 := blk_drew a9
            have a11_0 := blk_drew a11
            have cm_0 := cmB _ H0
            have hS0 : (W9.drew.cell? ⟨g9, 0, none⟩ = some (Value.slice A9 n c9) ∧ W9.drew.cell? ⟨g9, 1, none⟩ = some (Value.int .i64 x9.v) ∧ W9.drew.cell? ⟨g9, 2, none⟩ = some (Value.slice x9.A x9.n x9.c) ∧ W9.drew.cell? ⟨g9, 3, none⟩ = some (Value.int .i64 x9.v') ∧ W9.drew.cell? ⟨g9, 4, none⟩ = some (Value.slice x9.A' x9.n' x9.c') ∧ W9.drew.cell? ⟨g9, 5, none⟩ = some (Value.bool b9)) ∧ (W9.drew.cell? ⟨g11, 0, none⟩ = some (Value.slice A1 n c1) ∧ W9.drew.cell? ⟨g11, 1, none⟩ = some (Value.int .i64 f1.2) ∧ W9.drew.cell? ⟨gm, om + kk * 2, none⟩ = some (Value.int .i64 mt) ∧ W9.drew.cell? ⟨gm, om + kk * 2 + 1, none⟩ = some (Value.int .i64 ml)) := And.intro (qx6 a9_0) (And.intro (qx2 a11_0).1 (And.intro (qx2 a11_0).2 (cm_0)))
            refine wp_region_U (n := 10) (fun W => (W.cell? ⟨g9, 0, none⟩ = some (Value.slice A9 n c9) ∧ W.cell? ⟨g9, 1, none⟩ = some (Value.int .i64 x9.v) ∧ W.cell? ⟨g9, 2, none⟩ = some (Value.slice x9.A x9.n x9.c) ∧ W.cell? ⟨g9, 3, none⟩ = some (Value.int .i64 x9.v') ∧ W.cell? ⟨g9, 4, none⟩ = some (Value.slice x9.A' x9.n' x9.c') ∧ W.cell? ⟨g9, 5, none⟩ = some (Value.bool b9)) ∧ (W.cell? ⟨g11, 0, none⟩ = some (Value.slice A1 n c1) ∧ W.cell? ⟨g11, 1, none⟩ = some (Value.int .i64 f1.2) ∧ W.cell? ⟨gm, om + kk * 2, none⟩ = some (Value.int .i64 mt) ∧ W.cell? ⟨gm, om + kk * 2 + 1, none⟩ = some (Value.int .i64 ml))) (by kernel_rfl) ?_
            refine wpU_take (n := 10) (i := 0) (v := ?_) (by decide) (by kernel_rfl) rfl (by kernel_rfl) (by kernel_rfl) (by kernel_rfl) (fun _ _ _ h => h) (by kernel_rfl) (Or.inl ⟨by rfl, ?_⟩) hS0 ?_
            rotate_left
            · intro w' hSw
              (try dsimp only at hSw)
              go_simp
              (try with_reducible rfl)
            try simp only [Act.put, List.setIfInBounds_toArray, List.set_cons_zero, List.set_cons_succ]
            refine wpU_take (n := 10) (i := 1) (v := ?_) (by decide) (by kernel_rfl) rfl (by kernel_rfl) (by kernel_rfl) (by kernel_rfl) (fun _ _ _ h => h) (by kernel_rfl) (Or.inl ⟨by rfl, ?_⟩) hS0 ?_
            rotate_left
            · intro w' hSw
              (try dsimp only at hSw)
              go_simp
              (try with_reducible rfl)
            try simp only [Act.put, List.setIfInBounds_toArray, List.set_cons_zero, List.set_cons_succ]
            refine wpU_take (n := 10) (i := 3) (v := ?_) (by decide) (by kernel_rfl) rfl (by kernel_rfl) (by kernel_rfl) (by kernel_rfl) (fun _ _ _ h => h) (by kernel_rfl) (Or.inl ⟨by rfl, ?_⟩) hS0 ?_
            rotate_left
            · intro w' hSw
              (try dsimp only at hSw)
              go_simp
              (try with_reducible rfl)
            try simp only [Act.put, List.setIfInBounds_toArray, List.set_cons_zero, List.set_cons_succ]
            refine wpU_take (n := 10) (i := 4) (v := ?_) (by decide) (by kernel_rfl) rfl (by kernel_rfl) (by kernel_rfl) (by kernel_rfl) (fun _ _ _ h => h) (by kernel_rfl) (Or.inl ⟨by rfl, ?_⟩) hS0 ?_
            rotate_left
            · intro w' hSw
              (try dsimp only at hSw)
              go_simp
              (try with_reducible rfl)
            try simp only [Act.put, List.setIfInBounds_toArray, List.set_cons_zero, List.set_cons_succ]
            refine wpU_take (n := 10) (i := 5) (v := ?_) (by decide) (by kernel_rfl) rfl (by kernel_rfl) (by kernel_rfl) (by kernel_rfl) (fun _ _ _ h => h) (by kernel_rfl) (Or.inl ⟨by rfl, ?_⟩) hS0 ?_
            rotate_left
            · intro w' hSw
              (try dsimp only at hSw)
              go_simp
              (try with_reducible rfl)
            try simp only [Act.put, List.setIfInBounds_toArray, List.set_cons_zero, List.set_cons_succ]
            refine wpU_take (n := 10) (i := 6) (v := ?_) (by decide) (by kernel_rfl) rfl (by kernel_rfl) (by kernel_rfl) (by kernel_rfl) (fun _ _ _ h => h) (by kernel_rfl) (Or.inl ⟨by rfl, ?_⟩) hS0 ?_
            rotate_left
            · intro w' hSw
              (try dsimp only at hSw)
              go_simp
              (try with_reducible rfl)
            try simp only [Act.put, List.setIfInBounds_toArray, List.set_cons_zero, List.set_cons_succ]
            refine wpU_one (n := 10) (i := 2) (by kernel_rfl) rfl (fun K9 hK9 => ?_)
            go_simp
            refine (lrow_calls A1 n c1 f1 _ (c4.below (H0)) h64 (by omega)).mono ?_
            rintro e y1 ⟨⟨Ar, nr, cr, xr, rfl, tr⟩, hB1⟩
            have H1 : Below W9.heap.size W9 y1 := bl_then H0 hB1
            have a9_1 := blk_below a9 H1
            have a11_1 := blk_below a11 H1
            have cm_1 := cmB _ H1
            have hS1 : (y1.cell? ⟨g9, 0, none⟩ = some (Value.slice A9 n c9) ∧ y1.cell? ⟨g9, 1, none⟩ = some (Value.int .i64 x9.v) ∧ y1.cell? ⟨g9, 2, none⟩ = some (Value.slice x9.A x9.n x9.c) ∧ y1.cell? ⟨g9, 3, none⟩ = some (Value.int .i64 x9.v') ∧ y1.cell? ⟨g9, 4, none⟩ = some (Value.slice x9.A' x9.n' x9.c') ∧ y1.cell? ⟨g9, 5, none⟩ = some (Value.bool b9)) ∧ (y1.cell? ⟨g11, 0, none⟩ = some (Value.slice A1 n c1) ∧ y1.cell? ⟨g11, 1, none⟩ = some (Value.int .i64 f1.2) ∧ y1.cell? ⟨gm, om + kk * 2, none⟩ = some (Value.int .i64 mt) ∧ y1.cell? ⟨gm, om + kk * 2 + 1, none⟩ = some (Value.int .i64 ml)) := And.intro (qx6 a9_1) (And.intro (qx2 a11_1).1 (And.intro (qx2 a11_1).2 (cm_1)))
            refine hK9.out _ _ (fun _ _ => hS1) (fun _ => ?_)
            clear hK9 K9
            try simp only [Act.put, List.setIfInBounds_toArray, List.set_cons_zero, List.set_cons_succ]
            refine wpU_one (n := 10) (i := 7) (by kernel_rfl) rfl (fun K9 hK9 => ?_)
            go_simp
            refine (rat_calls mt ml _ mb.1.1 mb.1.2 mb.2.1 mb.2.2 hml).mono ?_
            rintro e y2 ⟨⟨v8, A8, n8, c8, v8', A8', n8', c8', rfl, tq⟩, hB2⟩
            have H2 : Below W9.heap.size W9 y2 := bl_then H1 hB2
            have a9_2 := blk_below a9 H2
            have a11_2 := blk_below a11 H2
            have cm_2 := cmB _ H2
            have hS2 : (y2.cell? ⟨g9, 0, none⟩ = some (Value.slice A9 n c9) ∧ y2.cell? ⟨g9, 1, none⟩ = some (Value.int .i64 x9.v) ∧ y2.cell? ⟨g9, 2, none⟩ = some (Value.slice x9.A x9.n x9.c) ∧ y2.cell? ⟨g9, 3, none⟩ = some (Value.int .i64 x9.v') ∧ y2.cell? ⟨g9, 4, none⟩ = some (Value.slice x9.A' x9.n' x9.c') ∧ y2.cell? ⟨g9, 5, none⟩ = some (Value.bool b9)) ∧ (y2.cell? ⟨g11, 0, none⟩ = some (Value.slice A1 n c1) ∧ y2.cell? ⟨g11, 1, none⟩ = some (Value.int .i64 f1.2) ∧ y2.cell? ⟨gm, om + kk * 2, none⟩ = some (Value.int .i64 mt) ∧ y2.cell? ⟨gm, om + kk * 2 + 1, none⟩ = some (Value.int .i64 ml)) := And.intro (qx6 a9_2) (And.intro (qx2 a11_2).1 (And.intro (qx2 a11_2).2 (cm_2)))
            refine hK9.out _ _ (fun _ _ => hS2) (fun _ => ?_)
            clear hK9 K9
            try simp only [Act.put, List.setIfInBounds_toArray, List.set_cons_zero, List.set_cons_succ]
            refine wpU_one (n := 10) (i := 8) (by kernel_rfl) rfl (fun K9 hK9 => ?_)
            go_simp
            refine (rowtimes_calls Ar nr cr xr false (rowF f1) ⟨v8, A8, n8, c8, v8', A8', n8', c8'⟩ _ _ (tr.below hB2) tq 61 HRS.out HQS.out (by omega)).mono ?_
            rintro e y3 ⟨⟨A3, n3, c3, x3, rfl, t3⟩, hB3⟩
            have H3 : Below W9.heap.size W9 y3 := bl_then H2 hB3
            have a9_3 := blk_below a9 H3
            have a11_3 := blk_below a11 H3
            have cm_3 := cmB _ H3
            have hS3 : (y3.cell? ⟨g9, 0, none⟩ = some (Value.slice A9 n c9) ∧ y3.cell? ⟨g9, 1, none⟩ = some (Value.int .i64 x9.v) ∧ y3.cell? ⟨g9, 2, none⟩ = some (Value.slice x9.A x9.n x9.c) ∧ y3.cell? ⟨g9, 3, none⟩ = some (Value.int .i64 x9.v') ∧ y3.cell? ⟨g9, 4, none⟩ = some (Value.slice x9.A' x9.n' x9.c') ∧ y3.cell? ⟨g9, 5, none⟩ = some (Value.bool b9)) ∧ (y3.cell? ⟨g11, 0, none⟩ = some (Value.slice A1 n c1) ∧ y3.cell? ⟨g11, 1, none⟩ = some (Value.int .i64 f1.2) ∧ y3.cell? ⟨gm, om + kk * 2, none⟩ = some (Value.int .i64 mt) ∧ y3.cell? ⟨gm, om + kk * 2 + 1, none⟩ = some (Value.int .i64 ml)) := And.intro (qx6 a9_3) (And.intro (qx2 a11_3).1 (And.intro (qx2 a11_3).2 (cm_3)))
            have hn3 : n = n3 := by rw [← t3.1.1, tms_len, rowF_len]; exact HLN.out.symm
            subst hn3
            refine hK9.out _ _ (fun _ _ => hS3) (fun _ => ?_)
            clear hK9 K9
            try simp only [Act.put, List.setIfInBounds_toArray, List.set_cons_zero, List.set_cons_succ]
            refine wpU_one (n := 10) (i := 9) (by kernel_rfl) rfl (fun K9 hK9 => ?_)
            go_simp
            refine (rowplus_calls A9 n c9 x9 b9 sm A3 c3 x3 false (tms (rowF f1) (ratQ (mt, ml))) _ (t9.below H3) t3 20000 HSM.out HTS.out (by omega)).mono ?_
            rintro e y4 ⟨⟨A5, n5, c5, x5, rfl, t5⟩, hB4⟩
            have H4 : Below W9.heap.size W9 y4 := bl_then H3 hB4
            have a9_4 := blk_below a9 H4
            have a11_4 := blk_below a11 H4
            have cm_4 := cmB _ H4
            have hS4 : (y4.cell? ⟨g9, 0, none⟩ = some (Value.slice A9 n c9) ∧ y4.cell? ⟨g9, 1, none⟩ = some (Value.int .i64 x9.v) ∧ y4.cell? ⟨g9, 2, none⟩ = some (Value.slice x9.A x9.n x9.c) ∧ y4.cell? ⟨g9, 3, none⟩ = some (Value.int .i64 x9.v') ∧ y4.cell? ⟨g9, 4, none⟩ = some (Value.slice x9.A' x9.n' x9.c') ∧ y4.cell? ⟨g9, 5, none⟩ = some (Value.bool b9)) ∧ (y4.cell? ⟨g11, 0, none⟩ = some (Value.slice A1 n c1) ∧ y4.cell? ⟨g11, 1, none⟩ = some (Value.int .i64 f1.2) ∧ y4.cell? ⟨gm, om + kk * 2, none⟩ = some (Value.int .i64 mt) ∧ y4.cell? ⟨gm, om + kk * 2 + 1, none⟩ = some (Value.int .i64 ml)) := And.intro (qx6 a9_4) (And.intro (qx2 a11_4).1 (And.intro (qx2 a11_4).2 (cm_4)))
            obtain ⟨⟨k1, k2, k3, k4, k5, k6⟩, k7⟩ := q6 a9_4
            refine hK9.out _ _ (fun _ _ => hS4) (fun _ => ?_)
            clear hK9 K9
            try simp only [Act.put, List.setIfInBounds_toArray, List.set_cons_zero, List.set_cons_succ]
            refine wpU_one (n := 10) (i := 10) (by kernel_rfl) rfl (fun K9 hK9 => ?_)
            go_simp
            refine hK9.out _ _ (fun _ h => absurd rfl h) (fun _ => ?_)
            clear hK9 K9
            try simp only [Act.put, List.setIfInBounds_toArray, List.set_cons_zero, List.set_cons_succ]
            refine wpU_done (by kernel_rfl) ?_ _
            have hn5 : n = n5 := by rw [← t5.1.1, pls_len _ _ HPL.out]; exact HSL.out.symm
            subst hn5
            have RB2 : RwB y4 g9 n sm := ⟨_, _, _, _, a9_4, t9.below H4⟩
            have V1 := RB2.set (b := b9) (c := c5) t5
            rw [HSX.out] at V1
            have V2 := q6_bl (bl_then B0 H4) hgb (.slice A5 n c5) (.int .i64 x5.v) (.slice x5.A x5.n x5.c) (.int .i64 x5.v') (.slice x5.A' x5.n' x5.c') (.bool b9)
            have V3 := q6_far (blk_below az H4) hg9w (.slice A5 n c5) (.int .i64 x5.v) (.slice x5.A x5.n x5.c) (.int .i64 x5.v') (.slice x5.A' x5.n' x5.c') (.bool b9)
            have HV1 := Lib.hid V1
            have HV2 := Lib.hid V2
            have HV3 := Lib.hid V3
            clear V1 V2 V3 RB2 hS0 hS1 hS2 hS3 hS4
            go_wp2
            go_roundw
            case rel => exact ⟨kk + 1, hlt, by go_num, HV1.out, HV3.out, HV2.out⟩
            case measure => simp [intOf]; omega
          · have hkn : m = kk := by omega
            subst hkn
            obtain ⟨A9, c9, x9, b9, a9, t9⟩ := RB
            have lg9 := blk_lt a9
            obtain ⟨hsl, hsm⟩ := HSZ.out m (Nat.le_refl m)
            have HQE : Hid ((smK n F M m).1 ++ [(smK n F M m).2] ++ [((1 : Int) : Rat)] = cbQ n F M) := Lib.hid (by unfold cbQ; rw [L.out]; rfl)
            have HQL : Hid ((cbQ n F M).length = n + 2) := Lib.hid (by rw [← HQE.out]; simp [hsl])
            have HQS : Hid (∀ j, SzR 20000 ((cbQ n F M).getD j 0)) := Lib.hid fun j => by
              rw [← HQE.out]
              have z0 : SzR 20000 (0 : Rat) := SzR.mono (k := 1) ⟨by unfold Sz; decide, by unfold Sz; decide⟩ (by omega)
              rcases Nat.lt_or_ge j n with hj | hj
              · rw [List.append_assoc, List.getD_eq_getElem?_getD, List.getElem?_append_left (by omega), ← List.getD_eq_getElem?_getD]; exact hsm.1 j
              · rcases Nat.lt_or_ge j (n + 1) with hj' | hj'
                · have : j = n := by omega
                  subst this
                  rw [List.getD_eq_getElem?_getD, List.getElem?_append_left (by simp [hsl]), ← List.getD_eq_getElem?_getD, getD_app_one _ _ _ _ hsl]; exact hsm.2
                · rcases Nat.lt_or_ge j (n + 2) with hj'' | hj''
                  · have : j = n + 1 := by omega
                    subst this
                    rw [getD_app_one _ _ _ _ (by simp [hsl])]
                    exact SzR.mono (k := 1) ⟨by unfold Sz; decide, by unfold Sz; decide⟩ (by omega)
                  · rw [List.getD_eq_getElem?_getD, List.getElem?_eq_none (by simp [hsl]; omega)]; exact z0
            clear hsl hsm HSZ
            generalize smK n F M m = sm at *
            generalize wr = W1 at *
            go_upto_region 11 with (fail)
            go_cut [12] (fun p wc => ∃ (gs cap base : Nat), p = .slice (some ⟨gs, 0, none⟩) (n + 1 + 1) cap ∧ OwnJ wc base gs (n + 1 + 1) cap (scl (cbQ n F M)) ∧ Below W1.heap.size W1 wc)
            case first =>
              have hSd : ∀ W, Below W1.heap.size W1 W → W.cell? ⟨g9, 0, none⟩ = some (Value.slice A9 n c9) ∧ W.cell? ⟨g9, 1, none⟩ = some (Value.int .i64 x9.v) ∧ W.cell? ⟨g9, 2, none⟩ = some (Value.slice x9.A x9.n x9.c) ∧ W.cell? ⟨g9, 3, none⟩ = some (Value.int .i64 x9.v') ∧ W.cell? ⟨g9, 4, none⟩ = some (Value.slice x9.A' x9.n' x9.c') ∧ W.cell? ⟨g9, 5, none⟩ = some (Value.bool b9) := fun W hB => qx6 (blk_below a9 hB)
              have hS0 := hSd W1.drew (bl_drew (Below.refl _ _))
              refine wp_region_U (n := 11) (fun W => W.cell? ⟨g9, 0, none⟩ = some (Value.slice A9 n c9) ∧ W.cell? ⟨g9, 1, none⟩ = some (Value.int .i64 x9.v) ∧ W.cell? ⟨g9, 2, none⟩ = some (Value.slice x9.A x9.n x9.c) ∧ W.cell? ⟨g9, 3, none⟩ = some (Value.int .i64 x9.v') ∧ W.cell? ⟨g9, 4, none⟩ = some (Value.slice x9.A' x9.n' x9.c') ∧ W.cell? ⟨g9, 5, none⟩ = some (Value.bool b9)) (by kernel_rfl) ?_
              refine wpU_take (n := 11) (i := 0) (v := ?_) (by decide) (by kernel_rfl) rfl (by kernel_rfl) (by kernel_rfl) (by kernel_rfl) (fun _ _ _ h => h) (by kernel_rfl) (Or.inl ⟨by rfl, ?_⟩) hS0 ?_
              rotate_left
              · intro w' hSw
                (try dsimp only at hSw)
                go_simp
                (try with_reducible rfl)
              try simp only [Act.put, List.setIfInBounds_toArray, List.set_cons_zero, List.set_cons_succ]
              refine wpU_take (n := 11) (i := 1) (v := ?_) (by decide) (by kernel_rfl) rfl (by kernel_rfl) (by kernel_rfl) (by kernel_rfl) (fun _ _ _ h => h) (by kernel_rfl) (Or.inl ⟨by rfl, ?_⟩) hS0 ?_
              rotate_left
              · intro w' hSw
                (try dsimp only at hSw)
                go_simp
                (try with_reducible rfl)
              try simp only [Act.put, List.setIfInBounds_toArray, List.set_cons_zero, List.set_cons_succ]
              refine wpU_take (n := 11) (i := 3) (v := ?_) (by decide) (by kernel_rfl) rfl (by kernel_rfl) (by kernel_rfl) (by kernel_rfl) (fun _ _ _ h => h) (by kernel_rfl) (Or.inl ⟨by rfl, ?_⟩) hS0 ?_
              rotate_left
              · intro w' hSw
                (try dsimp only at hSw)
                go_simp
                (try with_reducible rfl)
              try simp only [Act.put, List.setIfInBounds_toArray, List.set_cons_zero, List.set_cons_succ]
              refine wpU_take (n := 11) (i := 4) (v := ?_) (by decide) (by kernel_rfl) rfl (by kernel_rfl) (by kernel_rfl) (by kernel_rfl) (fun _ _ _ h => h) (by kernel_rfl) (Or.inl ⟨by rfl, ?_⟩) hS0 ?_
              rotate_left
              · intro w' hSw
                (try dsimp only at hSw)
                go_simp
                (try with_reducible rfl)
              try simp only [Act.put, List.setIfInBounds_toArray, List.set_cons_zero, List.set_cons_succ]
              refine wpU_two (n := 11) (i := 2) (k := 5) (by kernel_rfl) rfl rfl (fun K9 hK9 => ?_) (fun K9 hK9 => ?_)
              · go_simp
                refine (clone_calls A9 n c9 sm.1 _ (t9.1.below (bl_drew (Below.refl _ _)))).mono ?_
                rintro e y1 ⟨⟨v1, rfl, O1⟩, hB1⟩
                have V1 : Below W1.heap.size W1 y1 := bl_then (bl_drew (Below.refl _ _)) hB1
                replace O1 : KQ.Own y1 W1.heap.size v1 n sm.1 := O1
                refine hK9.out _ _ (fun _ _ => hSd _ V1) (fun _ => ?_)
                clear hK9 K9
                try simp only [Act.put, List.setIfInBounds_toArray, List.set_cons_zero, List.set_cons_succ]
                refine wpU_one (n := 11) (i := 5) (by kernel_rfl) rfl (fun K9 hK9 => ?_)
                go_simp
                have V2 := bl_alloc V1 (.cells #[.int .i64 x9.v, .slice x9.A x9.n x9.c, .int .i64 x9.v', .slice x9.A' x9.n' x9.c'] 63)
                refine hK9.out _ _ (fun _ _ => hSd _ V2) (fun _ => ?_)
                clear hK9 K9
                try simp only [Act.put, List.setIfInBounds_toArray, List.set_cons_zero, List.set_cons_succ]
                replace O1 := Kind.Own.below KQ.ok O1 (bl_alloc (Below.refl _ _) (.cells #[.int .i64 x9.v, .slice x9.A x9.n x9.c, .int .i64 x9.v', .slice x9.A' x9.n' x9.c'] 63))
                obtain ⟨v6, W6, hrun6, O2, hgr6⟩ := appg1 (c := 1) (g := y1.heap.size) KQ.ok 58 _ 64 info_rat Try.underlying58 rfl (by omega) O1 x9 sm.2 _ (blk_at _ rfl) rfl (RC.Is.below t9.2 V2) (by omega) V2.size
                have V6 : Below W1.heap.size W1 W6 := below_of_grown V2 hgr6 V2.size (fun b hb => by have := O1.ge b hb; (try simp at this); omega)
                have HR6 := Lib.hid hrun6
                clear hrun6
                refine wpU_one (n := 11) (i := 6) (by kernel_rfl) rfl (fun K9 hK9 => ?_)
                refine oper_ap rfl (.tmp 58) (.tmp 61) 58 (by rfl) _ _ (by rfl) (by rfl) _ (by rfl) _ _ HR6.out ?_
                refine hK9.out _ _ (fun _ _ => hSd _ V6) (fun _ => ?_)
                clear hK9 K9
                try simp only [Act.put, List.setIfInBounds_toArray, List.set_cons_zero, List.set_cons_succ]
                refine wpU_one (n := 11) (i := 7) (by kernel_rfl) rfl (fun K9 hK9 => ?_)
                go_simp
                refine (wholei_calls 1 _ (by decide) (by decide)).mono ?_
                rintro e y7 ⟨⟨v7, A7, n7, c7, v7', A7', n7', c7', rfl, t7⟩, hB7⟩
                have V7 := bl_then V6 hB7
                refine hK9.out _ _ (fun _ _ => hSd _ V7) (fun _ => ?_)
                clear hK9 K9
                try simp only [Act.put, List.setIfInBounds_toArray, List.set_cons_zero, List.set_cons_succ]
                refine wpU_one (n := 11) (i := 8) (by kernel_rfl) rfl (fun K9 hK9 => ?_)
                go_simp
                have V8 := bl_alloc V7 (.cells #[.int .i64 v7, .slice A7 n7 c7, .int .i64 v7', .slice A7' n7' c7'] 63)
                refine hK9.out _ _ (fun _ _ => hSd _ V8) (fun _ => ?_)
                clear hK9 K9
                try simp only [Act.put, List.setIfInBounds_toArray, List.set_cons_zero, List.set_cons_succ]
                have O3 := Kind.Own.below KQ.ok O2 (bl_alloc hB7 (.cells #[.int .i64 v7, .slice A7 n7 c7, .int .i64 v7', .slice A7' n7' c7'] 63))
                have t8 : KQ.Is (y7.alloc (.cells #[.int .i64 v7, .slice A7 n7 c7, .int .i64 v7', .slice A7' n7' c7'] 63)) ⟨v7, A7, n7, c7, v7', A7', n7', c7'⟩ (((1 : Int) : Rat)) := RatV.below t7 (bl_alloc (Below.refl _ _) _)
                have HG6 := O2.ge
                obtain ⟨v9, W9, hrun9, O4, hgr9⟩ := appg1 (c := 1) (g := y7.heap.size) KQ.ok 58 _ 64 info_rat Try.underlying58 rfl (by omega) O3 ⟨v7, A7, n7, c7, v7', A7', n7', c7'⟩ (((1 : Int) : Rat)) _ (blk_at _ rfl) rfl t8 (by omega) V8.size
                have V9 : Below W1.heap.size W1 W9 := below_of_grown V8 hgr9 V8.size (fun b hb => by have := O3.ge b hb; omega)
                have HR9 := Lib.hid hrun9
                clear hrun9
                refine wpU_one (n := 11) (i := 9) (by kernel_rfl) rfl (fun K9 hK9 => ?_)
                refine oper_ap rfl (.tmp 62) (.tmp 64) 58 (by rfl) _ _ (by rfl) (by rfl) _ (by rfl) _ _ HR9.out ?_
                refine hK9.out _ _ (fun _ _ => hSd _ V9) (fun _ => ?_)
                clear hK9 K9
                try simp only [Act.put, List.setIfInBounds_toArray, List.set_cons_zero, List.set_cons_succ]
                obtain ⟨A8, c8, rfl, hrd⟩ := KQ.rdQ O4 (by omega)
                rw [HQE.out] at hrd
                refine wpU_one (n := 11) (i := 10) (by kernel_rfl) rfl (fun K9 hK9 => ?_)
                go_simp
                refine (scaled_calls A8 (n + 1 + 1) c8 (cbQ n F M) _ hrd 20000 HQS.out (by omega)).mono ?_
                rintro e y10 ⟨⟨gs, cap, rfl, OJ⟩, hB10⟩
                have V10 := bl_then V9 hB10
                refine hK9.out _ _ (fun _ _ => hSd _ V10) (fun _ => ?_)
                clear hK9 K9
                try simp only [Act.put, List.setIfInBounds_toArray, List.set_cons_zero, List.set_cons_succ]
                refine wpU_one (n := 11) (i := 11) (by kernel_rfl) rfl (fun K9 hK9 => ?_)
                go_simp
                refine hK9.out _ _ (fun _ h => absurd rfl h) (fun _ => ?_)
                clear hK9 K9
                try simp only [Act.put, List.setIfInBounds_toArray, List.set_cons_zero, List.set_cons_succ]
                refine wpU_done (by kernel_rfl) ?_ _
                go_wp2
                go_meet
                case rel => exact ⟨gs, cap, _, rfl, OJ, V10⟩
              · go_simp
                have V1 : Below W1.heap.size W1 (W1.drew.alloc (.cells #[.int .i64 x9.v, .slice x9.A x9.n x9.c, .int .i64 x9.v', .slice x9.A' x9.n' x9.c'] 63)) := bl_alloc (bl_drew (Below.refl _ _)) _
                refine hK9.out _ _ (fun _ _ => hSd _ V1) (fun _ => ?_)
                clear hK9 K9
                try simp only [Act.put, List.setIfInBounds_toArray, List.set_cons_zero, List.set_cons_succ]
                refine wpU_one (n := 11) (i := 2) (by kernel_rfl) rfl (fun K9 hK9 => ?_)
                go_simp
                refine (clone_calls A9 n c9 sm.1 _ (t9.1.below V1)).mono ?_
                rintro e y1 ⟨⟨v1, rfl, O1⟩, hB1⟩
                have V2 : Below W1.heap.size W1 y1 := bl_then V1 hB1
                replace O1 : KQ.Own y1 W1.heap.size v1 n sm.1 := Kind.Own.base2 O1 V1.size
                have EA : y1.heap[W1.heap.size]? = some (.cells #[.int .i64 x9.v, .slice x9.A x9.n x9.c, .int .i64 x9.v', .slice x9.A' x9.n' x9.c'] 63 (0, 0)) := blk_below (blk_at (W := W1.drew) _ rfl) hB1
                refine hK9.out _ _ (fun _ _ => hSd _ V2) (fun _ => ?_)
                clear hK9 K9
                try simp only [Act.put, List.setIfInBounds_toArray, List.set_cons_zero, List.set_cons_succ]
                obtain ⟨v6, W6, hrun6, O2, hgr6⟩ := appg1 (c := 1) (g := W1.heap.size) KQ.ok 58 _ 64 info_rat Try.underlying58 rfl (by omega) O1 x9 sm.2 _ EA rfl (RC.Is.below t9.2 V2) (by omega) V2.size
                have V6 : Below W1.heap.size W1 W6 := below_of_grown V2 hgr6 V2.size (fun b hb => by have := O1.ge b hb; (try simp at this); omega)
                have HR6 := Lib.hid hrun6
                clear hrun6
                refine wpU_one (n := 11) (i := 6) (by kernel_rfl) rfl (fun K9 hK9 => ?_)
                refine oper_ap rfl (.tmp 58) (.tmp 61) 58 (by rfl) _ _ (by rfl) (by rfl) _ (by rfl) _ _ HR6.out ?_
                refine hK9.out _ _ (fun _ _ => hSd _ V6) (fun _ => ?_)
                clear hK9 K9
                try simp only [Act.put, List.setIfInBounds_toArray, List.set_cons_zero, List.set_cons_succ]
                refine wpU_one (n := 11) (i := 7) (by kernel_rfl) rfl (fun K9 hK9 => ?_)
                go_simp
                refine (wholei_calls 1 _ (by decide) (by decide)).mono ?_
                rintro e y7 ⟨⟨v7, A7, n7, c7, v7', A7', n7', c7', rfl, t7⟩, hB7⟩
                have V7 := bl_then V6 hB7
                refine hK9.out _ _ (fun _ _ => hSd _ V7) (fun _ => ?_)
                clear hK9 K9
                try simp only [Act.put, List.setIfInBounds_toArray, List.set_cons_zero, List.set_cons_succ]
                refine wpU_one (n := 11) (i := 8) (by kernel_rfl) rfl (fun K9 hK9 => ?_)
                go_simp
                have V8 := bl_alloc V7 (.cells #[.int .i64 v7, .slice A7 n7 c7, .int .i64 v7', .slice A7' n7' c7'] 63)
                refine hK9.out _ _ (fun _ _ => hSd _ V8) (fun _ => ?_)
                clear hK9 K9
                try simp only [Act.put, List.setIfInBounds_toArray, List.set_cons_zero, List.set_cons_succ]
                have O3 := Kind.Own.below KQ.ok O2 (bl_alloc hB7 (.cells #[.int .i64 v7, .slice A7 n7 c7, .int .i64 v7', .slice A7' n7' c7'] 63))
                have t8 : KQ.Is (y7.alloc (.cells #[.int .i64 v7, .slice A7 n7 c7, .int .i64 v7', .slice A7' n7' c7'] 63)) ⟨v7, A7, n7, c7, v7', A7', n7', c7'⟩ (((1 : Int) : Rat)) := RatV.below t7 (bl_alloc (Below.refl _ _) _)
                have HG6 := O2.ge
                obtain ⟨v9, W9, hrun9, O4, hgr9⟩ := appg1 (c := 1) (g := y7.heap.size) KQ.ok 58 _ 64 info_rat Try.underlying58 rfl (by omega) O3 ⟨v7, A7, n7, c7, v7', A7', n7', c7'⟩ (((1 : Int) : Rat)) _ (blk_at _ rfl) rfl t8 (by omega) V8.size
                have V9 : Below W1.heap.size W1 W9 := below_of_grown V8 hgr9 V8.size (fun b hb => by have := O3.ge b hb; omega)
                have HR9 := Lib.hid hrun9
                clear hrun9
                refine wpU_one (n := 11) (i := 9) (by kernel_rfl) rfl (fun K9 hK9 => ?_)
                refine oper_ap rfl (.tmp 62) (.tmp 64) 58 (by rfl) _ _ (by rfl) (by rfl) _ (by rfl) _ _ HR9.out ?_
                refine hK9.out _ _ (fun _ _ => hSd _ V9) (fun _ => ?_)
                clear hK9 K9
                try simp only [Act.put, List.setIfInBounds_toArray, List.set_cons_zero, List.set_cons_succ]
                obtain ⟨A8, c8, rfl, hrd⟩ := KQ.rdQ O4 (by omega)
                rw [HQE.out] at hrd
                refine wpU_one (n := 11) (i := 10) (by kernel_rfl) rfl (fun K9 hK9 => ?_)
                go_simp
                refine (scaled_calls A8 (n + 1 + 1) c8 (cbQ n F M) _ hrd 20000 HQS.out (by omega)).mono ?_
                rintro e y10 ⟨⟨gs, cap, rfl, OJ⟩, hB10⟩
                have V10 := bl_then V9 hB10
                refine hK9.out _ _ (fun _ _ => hSd _ V10) (fun _ => ?_)
                clear hK9 K9
                try simp only [Act.put, List.setIfInBounds_toArray, List.set_cons_zero, List.set_cons_succ]
                refine wpU_one (n := 11) (i := 11) (by kernel_rfl) rfl (fun K9 hK9 => ?_)
                go_simp
                refine hK9.out _ _ (fun _ h => absurd rfl h) (fun _ => ?_)
                clear hK9 K9
                try simp only [Act.put, List.setIfInBounds_toArray, List.set_cons_zero, List.set_cons_succ]
                refine wpU_done (by kernel_rfl) ?_ _
                go_wp2
                go_meet
                case rel => exact ⟨gs, cap, _, rfl, OJ, V10⟩
            case rest =>
              obtain ⟨gs, cap, base, rfl, OJ, hBc⟩ := hcut
              replace az := blk_below az hBc
              replace B0 := bl_then B0 hBc
              clear hBc a9 t9 lg9
              have HLL : Hid ((scl (cbQ n F M)).length = n + 1 + 1) := Lib.hid (by rw [scl_len]; exact HQL.out)
              clear HQE HQL HQS
              generalize scl (cbQ n F M) = L1 at *
              obtain ⟨ci, hci, qi⟩ := made_i n (by omega)
              have OI := hci wc wc.heap.size wc.heap.size rfl (Nat.le_refl _)
              obtain ⟨cur, hcur, hcs⟩ : ∃ cur : Array Value, ((wc.alloc (.cells ci 3)).heap[wc.heap.size]? = some (.cells cur 3 (0, 0))) ∧ cur.size = n := ⟨ci, blk_at _ rfl, by
                obtain ⟨_, A2, c2, hv, hr, _⟩ := RdI.own OI
                rcases OI.2 with ⟨h0, _⟩ | ⟨g', cap', cur', hv', hb', hg', hcap, hsz, hsize, _⟩
                · cases h0
                · cases hv'
                  have e := (blk_at (W := wc) (.cells ci 3) rfl).symm.trans hg'
                  cases e
                  rw [hsize, Nat.mul_one]⟩
              clear hci OI
              have hzw := blk_lt az
              have a13 : (((wc.alloc (.cells ci 3)).alloc (.cells #[.slice (some ⟨wc.heap.size, 0, none⟩) n n, .int .i64 0] 30)).alloc (.cells #[.int .i64 0, .int .i64 0, .int .i64 0, .int .i64 0, .int .i64 0, .int .i64 0, .int .i64 0, .int .i64 0, .int .i64 0, .int .i64 0] 82)).heap[wc.heap.size + 1]? = some (.cells #[.slice (some ⟨wc.heap.size, 0, none⟩) n n, .int .i64 0] 30 (0, 0)) := blk_alloc (blk_at _ (by simp)) _
              have a14 : (((wc.alloc (.cells ci 3)).alloc (.cells #[.slice (some ⟨wc.heap.size, 0, none⟩) n n, .int .i64 0] 30)).alloc (.cells #[.int .i64 0, .int .i64 0, .int .i64 0, .int .i64 0, .int .i64 0, .int .i64 0, .int .i64 0, .int .i64 0, .int .i64 0, .int .i64 0] 82)).heap[wc.heap.size + 1 + 1]? = some (.cells #[.int .i64 0, .int .i64 0, .int .i64 0, .int .i64 0, .int .i64 0, .int .i64 0, .int .i64 0, .int .i64 0, .int .i64 0, .int .i64 0] 82 (0, 0)) := blk_at _ (by simp)
              replace hcur := blk_alloc (blk_alloc hcur (.cells #[.slice (some ⟨wc.heap.size, 0, none⟩) n n, .int .i64 0] 30)) (.cells #[.int .i64 0, .int .i64 0, .int .i64 0, .int .i64 0, .int .i64 0, .int .i64 0, .int .i64 0, .int .i64 0, .int .i64 0, .int .i64 0] 82)
              have BX : Below wc.heap.size wc (((wc.alloc (.cells ci 3)).alloc (.cells #[.slice (some ⟨wc.heap.size, 0, none⟩) n n, .int .i64 0] 30)).alloc (.cells #[.int .i64 0, .int .i64 0, .int .i64 0, .int .i64 0, .int .i64 0, .int .i64 0, .int .i64 0, .int .i64 0, .int .i64 0, .int .i64 0] 82)) := bl_alloc (bl_alloc (bl_alloc (Below.refl _ _) _) _) _
              have hs2 : (((wc.alloc (.cells ci 3)).alloc (.cells #[.slice (some ⟨wc.heap.size, 0, none⟩) n n, .int .i64 0] 30)).alloc (.cells #[.int .i64 0, .int .i64 0, .int .i64 0, .int .i64 0, .int .i64 0, .int .i64 0, .int .i64 0, .int .i64 0, .int .i64 0, .int .i64 0] 82)).heap.size = wc.heap.size + 1 + 1 + 1 := by simp
              replace az := blk_below az BX
              replace B0 := bl_then B0 BX
              have hgs := OJ.ge.2
              replace OJ := OJ.below BX
              go_upto_region 14 with (fail)
              clear qi BX
              generalize ((wc.alloc (.cells ci 3)).alloc (.cells #[.slice (some ⟨wc.heap.size, 0, none⟩) n n, .int .i64 0] 30)).alloc (.cells #[.int .i64 0, .int .i64 0, .int .i64 0, .int .i64 0, .int .i64 0, .int .i64 0, .int .i64 0, .int .i64 0, .int .i64 0, .int .i64 0] 82) = W2 at *
              have hg13 : wc.heap.size < wc.heap.size + 1 := by omega
              generalize hgq : wc.heap.size = gq at *
              have hzq : w.heap.size < gq := hzw
              have hsq : gs < gq := hgs
              clear hgq hzw hgs hg13
              have HA0 : Hid ((ints .i64 (uptoi (fun j => L1.getD j 0) 10 0)).toArray = #[.int .i64 0, .int .i64 0, .int .i64 0, .int .i64 0, .int .i64 0, .int .i64 0, .int .i64 0, .int .i64 0, .int .i64 0, .int .i64 0]) := Lib.hid (by rw [← uptoi_zero]; rfl)
              rw [← HA0.out] at a14
              clear HA0
              have HAZ := Lib.hid az
              have HB0 := Lib.hid B0
              have HOJ := Lib.hid OJ
              have HA13 := Lib.hid a13
              have HCUR := Lib.hid hcur
              have HA14 := Lib.hid a14
              clear az B0 OJ a13 hcur
              go_wp2_with fail
              go_loopw [72] (fun i wr => ∃ kk : Nat, kk ≤ n + 1 + 1 ∧ i = .int .i64 kk ∧ Hid (∀ j, j < kk → mid (L1.getD j 0)) ∧ wr.heap[gq + 1 + 1]? = some (.cells (ints .i64 (uptoi (fun j => L1.getD j 0) 10 kk)).toArray 82 (0, 0)) ∧ Below (gq + 1 + 1) W2 wr) (fun i _ => n + 1 + 1 - (intOf i).toNat)
              case atStart => exact ⟨0, Nat.zero_le _, rfl, Lib.hid fun j hj => absurd hj (by omega), a14, Below.refl _ _⟩
              case round =>
                clear a14
                obtain ⟨kk, hkk, rfl, HMID, a14, hBx⟩ := hrel
                by_cases hlt : kk < n + 1 + 1
                · have hk2 : Kp 118 W2 wr := kp_under hs2 HA14.out hBx (by decide)
                  have OJ := HOJ.out.far (w' := wr) (hBx.block gs (by omega)) hk2
                  obtain ⟨y, p1, p2, hy⟩ := OJ.at kk hlt
                  have hmem : L1.getD kk 0 ∈ L1 := mem_getD (by rw [HLL.out]; exact hlt)
                  have HM2 : Hid (mid (L1.getD kk 0) → ∀ j, j < kk + 1 → mid (L1.getD j 0)) := Lib.hid fun e j hj => by
                    rcases Nat.lt_or_ge j kk with h | h
                    · exact HMID.out j h
                    · have : j = kk := by omega
                      rw [this]; exact e
                  have HNM : Hid (¬ mid (L1.getD kk 0) → E9 = (([], 0), 0, 3)) := Lib.hid fun e => HFULL.out fun hall => e (hall _ hmem)
                  have HST : Hid ((ints .i64 (uptoi (fun j => L1.getD j 0) 10 kk)).toArray.setIfInBounds kk (.int .i64 (L1.getD kk 0)) = (ints .i64 (uptoi (fun j => L1.getD j 0) 10 (kk + 1))).toArray) := Lib.hid (by
                    rw [List.setIfInBounds_toArray]
                    congr 1
                    unfold ints
                    rw [← List.map_set, uptoi_set (fun j => L1.getD j 0) 10 kk (by omega)])
                  have hsz : kk < ((ints .i64 (uptoi (fun j => L1.getD j 0) 10 kk)).toArray).size := by simp [ints, uptoi]; omega
                  obtain ⟨u, hu⟩ : ∃ u, (ints .i64 (uptoi (fun j => L1.getD j 0) 10 kk)).toArray[kk]? = some u := ⟨_, Array.getElem?_eq_getElem hsz⟩
                  clear OJ hmem hk2 hsz
                  have hy2 : IntV wr y.v y.A y.n y.c (L1.getD kk 0) := hy
                  clear hy
                  generalize L1.getD kk 0 = z at *
                  have hy3 := IntV.below hy2 (bl_alloc (Below.refl _ _) (.cells #[.int .i64 y.v, .slice y.A y.n y.c] 61))
                  have a16 : (wr.alloc (.cells #[.int .i64 y.v, .slice y.A y.n y.c] 61)).heap[wr.heap.size]? = some (.cells #[.int .i64 y.v, .slice y.A y.n y.c] 61 (0, 0)) := blk_at _ rfl
                  replace a14 := blk_alloc a14 (.cells #[.int .i64 y.v, .slice y.A y.n y.c] 61)
                  have hB2 : Below (gq + 1 + 1) W2 (wr.alloc (.cells #[.int .i64 y.v, .slice y.A y.n y.c] 61)) := hBx.trans (Below.mono (bl_alloc (Below.refl _ _) _) (by have := hBx.size; omega))
                  have hk0 : (0 : Int) ≤ (kk : Int) := by omega
                  have hkn : (kk : Int) < ((n + 1 + 1 : Nat) : Int) := by omega
                  have hk10 : (kk : Int) < 10 := by omega
                  obtain ⟨q1, q2, q3, q4⟩ := bx2 a16
                  clear hy2
                  by_cases hmid : mid z
                  · have HMN := Lib.hid (HM2.out hmid)
                    obtain ⟨hm1, hm2⟩ := hmid
                    go_wp2_with fail
                    refine (int_yes y.v y.A y.n y.c z 1152921504606846976 _ hy3 hm1 hm2 (by decide)).mono ?_
                    rintro e w5 ⟨rfl, hB5⟩
                    replace a14 := blk_below a14 hB5
                    have hB6 : Below (gq + 1 + 1) W2 w5 := hB2.trans (hB5.mono (by have := hB2.size; omega))
                    have V1 := blk_set a14 kk (.int .i64 z)
                    rw [HST.out] at V1
                    have HV1 := Lib.hid V1
                    have HV2 := Lib.hid (hB6.setCell (p := ⟨gq + 1 + 1, kk, none⟩) (Nat.le_refl _) (.int .i64 z))
                    have r1 := (blk_cell a14 kk).1.trans hu
                    have r2 := (blk_cell a14 kk).2
                    clear V1 hB6 hB5 hB2 hBx a16 q1 q2 q3 q4 hy3 p1 p2 a14
                    go_wp2_with fail
                    go_roundw
                    case rel => exact ⟨kk + 1, hlt, by go_num, HMN, HV1.out, HV2.out⟩
                    case measure => simp [intOf]; omega
                  · have hy := HNM.out hmid
                    subst hy
                    go_wp2_with fail
                    refine (int_no y.v y.A y.n y.c z 1152921504606846976 _ hy3 (by unfold mid at hmid; omega) (by decide) (by decide)).mono ?_
                    rintro e w5 ⟨rfl, hB5⟩
                    have hB6 : Below (gq + 1 + 1) W2 w5 := hB2.trans (hB5.mono (by have := hB2.size; omega))
                    have az : w5.heap[w.heap.size]? = some (.cells #[.slice none 0 0, .int .i64 0] 30 (0, 0)) := (hB6.block _ (by omega)).trans HAZ.out
                    have B0 : Below w.heap.size w w5 := HB0.out.trans (hB6.mono (by omega))
                    clear hB6 hB5 hB2 hBx a16 q1 q2 q3 q4 hy3 p1 p2 a14 hmid
                    have V1 := blk_set2 az (.slice none 0 0) (.int .i64 0)
                    have V2 := bl_set (bl_set B0 (p := ⟨w.heap.size, 0, none⟩) (Nat.le_refl _) (.slice none 0 0)) (p := ⟨w.heap.size, 1, none⟩) (Nat.le_refl _) (.int .i64 0)
                    obtain ⟨z1, z2, z3, z4⟩ := bx2 az
                    go_wp2
                    refine bodyPost_ret (results_cell_tmp2_row rfl _ _ w.heap.size 30 #[.slice none 0 0, .int .i64 0] (0, 0) _ _ _ rfl V1 Try.underlying30 rfl (by kernel_rfl) rfl rfl) rfl ?_
                    exact ⟨⟨_, rfl, _, _, _, rfl, ⟨rfl, by omega, fun h => absurd h (by omega)⟩, Wi.nil _ _ _⟩, V2⟩
                · have e : n + 1 + 1 = kk := by omega
                  subst e
                  have hE := HYES.out fun z hz => by
                    obtain ⟨j, hj, rfl⟩ := List.getElem_of_mem hz
                    have := HMID.out j (by rw [← HLL.out]; exact hj)
                    rwa [List.getD_eq_getElem?_getD, List.getElem?_eq_getElem hj] at this
                  subst hE
                  have az : wr.heap[w.heap.size]? = some (.cells #[.slice none 0 0, .int .i64 0] 30 (0, 0)) := (hBx.block _ (by omega)).trans HAZ.out
                  have B0 : Below w.heap.size w wr := HB0.out.trans (hBx.mono (by omega))
                  have a13 : wr.heap[gq + 1]? = some (.cells #[.slice (some ⟨gq, 0, none⟩) n n, .int .i64 0] 30 (0, 0)) := (hBx.block _ (by omega)).trans HA13.out
                  have hcur : wr.heap[gq]? = some (.cells cur 3 (0, 0)) := (hBx.block _ (by omega)).trans HCUR.out
                  have hat : ∀ j, j < n + 1 + 1 → wr.cell? ⟨gq + 1 + 1, j, none⟩ = some (.int .i64 (L1.getD j 0)) := fun j hj => by
                    rw [(blk_cell a14 j).1, List.getElem?_toArray]
                    unfold ints uptoi
                    rw [List.getElem?_map, List.getElem?_map, List.getElem?_range (by omega)]
                    simp [hj]
                  clear HYES HFULL HMID HAZ HB0 HOJ HA13 HCUR HA14 hBx
                  obtain ⟨f1, f2, f3, f4⟩ := bx2 a13
                  have hn0 : (0 : Int) ≤ (n : Int) := by omega
                  have hn10 : (n : Int) ≤ 10 := by omega
                  go_upto_region 22 with (fail)
                  go_still_tail 4, (by kernel_rfl)
                  change wpList _ _ _ _ _ wr.drew
                  have hil : (ints .i64 (L1.take n)).length = n := by rw [ints_length, List.length_take, HLL.out]; omega
                  have hnew : (wr.drew.setRow gq (cur.toList.take 0 ++ (ints .i64 (L1.take n) ++ cur.toList.drop (0 + (ints .i64 (L1.take n)).length))).toArray).heap[gq]? = some (.cells (ints .i64 (L1.take n)).toArray 3 (0, 0)) := by
                    rw [setRow_heap _ _ _ _ _ _ (blk_drew hcur), hil, List.take_zero, List.nil_append, List.drop_eq_nil_of_le (by rw [Array.length_toList, hcs]; omega), List.append_nil]
                  have hoth : ∀ k, k ≠ gq → (wr.drew.setRow gq (cur.toList.take 0 ++ (ints .i64 (L1.take n) ++ cur.toList.drop (0 + (ints .i64 (L1.take n)).length))).toArray).heap[k]? = wr.heap[k]? := fun k hk => setRow_other _ _ _ _ hk
                  have hBr : Below w.heap.size w (wr.drew.setRow gq (cur.toList.take 0 ++ (ints .i64 (L1.take n) ++ cur.toList.drop (0 + (ints .i64 (L1.take n)).length))).toArray) := below_setRow (bl_drew B0) (by omega) _
                  refine wpList_copy_own rfl (.tmp 90) (.tmp 92) 28 28 rfl 3 Try.underlying28 (by kernel_rfl) gq 0 n n ⟨gq + 1 + 1, 0, none⟩ n 10 (by rfl) (by rfl) cur 3 (blk_drew hcur) (ints .i64 (L1.take n)) (by rw [hil]; exact (Nat.min_self n).symm) (fun j v hj => ?_) (by rw [hil, hcs]; omega) (fun v hv => ?_) ?_
                  · have hjn : j < n := by rw [← hil]; exact (List.getElem?_eq_some_iff.1 hj).1
                    have e1 := hat j (by omega)
                    have e2 : (ints .i64 (L1.take n))[j]? = some (.int .i64 (L1.getD j 0)) := by
                      unfold ints
                      rw [List.getElem?_map, List.getElem?_take_of_lt hjn, List.getD_eq_getElem?_getD, List.getElem?_eq_getElem (by rw [HLL.out]; omega)]
                      rfl
                    rw [e2] at hj
                    cases hj
                    rw [show (⟨gq + 1 + 1, 0, none⟩ : Addr).add j = ⟨gq + 1 + 1, j, none⟩ by unfold Addr.add; split; (· rename_i h; rw [h]); (· simp)]
                    exact e1
                  · obtain ⟨x, _, rfl⟩ := List.mem_map.1 hv
                    rfl
                  · have az3 := (hoth w.heap.size (by omega)).trans az
                    have a133 := (hoth (gq + 1) (by omega)).trans a13
                    have a143 := (hoth (gq + 1 + 1) (by omega)).trans a14
                    generalize wr.drew.setRow gq (cur.toList.take 0 ++ (ints .i64 (L1.take n) ++ cur.toList.drop (0 + (ints .i64 (L1.take n)).length))).toArray = W5 at *
                    have hat5 : ∀ j, j < n + 1 + 1 → W5.cell? ⟨gq + 1 + 1, j, none⟩ = some (.int .i64 (L1.getD j 0)) := fun j hj => by
                      rw [(blk_cell a143 j).1, ← (blk_cell a14 j).1]; exact hat j hj
                    clear hat f1 f2 f3 f4 az a13 a14 hoth B0 hcur
                    obtain ⟨f1, f2, f3, f4⟩ := bx2 a133
                    have c0 := hat5 n (by omega)
                    have hn10' : (n : Int) < 10 := by omega
                    have V1 := blk_set a133 1 (.int .i64 (L1.getD n 0))
                    have V2 := blk_far (i := 1) (v := .int .i64 (L1.getD n 0)) az3 (show w.heap.size ≠ gq + 1 by omega)
                    have V3 := blk_far (i := 1) (v := .int .i64 (L1.getD n 0)) a143 (show gq + 1 + 1 ≠ gq + 1 by omega)
                    have V4 := blk_far (i := 1) (v := .int .i64 (L1.getD n 0)) hnew (show gq ≠ gq + 1 by omega)
                    have V5 := hBr.setCell (p := ⟨gq + 1, 1, none⟩) (by show w.heap.size ≤ gq + 1; omega) (.int .i64 (L1.getD n 0))
                    have c1 : (W5.setCell ⟨gq + 1, 1, none⟩ (.int .i64 (L1.getD n 0))).cell? ⟨gq + 1 + 1, n + 1, none⟩ = some (.int .i64 (L1.getD (n + 1) 0)) := by
                      rw [(blk_cell V3 (n + 1)).1, ← (blk_cell a143 (n + 1)).1]; exact hat5 (n + 1) (by omega)
                    have HV1 := Lib.hid V1
                    have HV2 := Lib.hid V2
                    have HV4 := Lib.hid V4
                    have HV5 := Lib.hid V5
                    have HC1 := Lib.hid c1
                    clear V1 V2 V3 V4 V5 c1 hat5 hnew hBr az3 a143 a133
                    generalize hzn : L1.getD n 0 = zn at *
                    generalize hzm : L1.getD (n + 1) 0 = zm at *
                    have HZN := Lib.hid hzn
                    have HZM := Lib.hid hzm
                    clear hzn hzm
                    go_upto_region 24 with (fail)
                    generalize W5.setCell ⟨gq + 1, 1, none⟩ (.int .i64 zn) = W6 at *
                    have hwr : IntKind.i64.wrap ((n : Int) + 1) = (n : Int) + 1 := by rw [IntKind.wrap_i64]; omega
                    have hwt : ((n : Int) + 1).toNat = n + 1 := by omega
                    have hn1 : (n : Int) + 1 < 10 := by omega
                    have hn01 : (0 : Int) ≤ (n : Int) + 1 := by omega
                    obtain ⟨l1, l2, l3, l4⟩ := bx2 (blk_drew HV2.out)
                    have hS0 : (W6.drew.cell? ⟨gq + 1, 0, none⟩ = some (Value.slice (some ⟨gq, 0, none⟩) n n) ∧ W6.drew.cell? ⟨gq + 1, 1, none⟩ = some (Value.int .i64 zn)) ∧ W6.drew.cell? ⟨gq + 1 + 1, n + 1, none⟩ = some (Value.int .i64 zm) := And.intro (qx2 (blk_drew HV1.out)) HC1.out
                    have hS5 : (((W6.drew.setCell ⟨w.heap.size, 0, none⟩ (.slice (some ⟨gq, 0, none⟩) n n)).setCell ⟨w.heap.size, 1, none⟩ (.int .i64 zn)).cell? ⟨gq + 1, 0, none⟩ = some (Value.slice (some ⟨gq, 0, none⟩) n n) ∧ ((W6.drew.setCell ⟨w.heap.size, 0, none⟩ (.slice (some ⟨gq, 0, none⟩) n n)).setCell ⟨w.heap.size, 1, none⟩ (.int .i64 zn)).cell? ⟨gq + 1, 1, none⟩ = some (Value.int .i64 zn)) ∧ ((W6.drew.setCell ⟨w.heap.size, 0, none⟩ (.slice (some ⟨gq, 0, none⟩) n n)).setCell ⟨w.heap.size, 1, none⟩ (.int .i64 zn)).cell? ⟨gq + 1 + 1, n + 1, none⟩ = some (Value.int .i64 zm) := And.intro (qx2 (blk_far (blk_far (blk_drew HV1.out) (show gq + 1 ≠ w.heap.size by omega)) (show gq + 1 ≠ w.heap.size by omega))) (((cell_farN (W6.drew) (show gq + 1 + 1 ≠ w.heap.size by omega) _ _ (n + 1))).trans HC1.out)
                    have V1 := blk_set2 (blk_drew HV2.out) (.slice (some ⟨gq, 0, none⟩) n n) (.int .i64 zn)
                    have V2 := bl_set (bl_set (bl_drew HV5.out) (p := ⟨w.heap.size, 0, none⟩) (Nat.le_refl _) (.slice (some ⟨gq, 0, none⟩) n n)) (p := ⟨w.heap.size, 1, none⟩) (Nat.le_refl _) (.int .i64 zn)
                    have V4 := blk_far (i := 1) (v := .int .i64 zn) (blk_far (i := 0) (v := .slice (some ⟨gq, 0, none⟩) n n) (blk_drew HV4.out) (show gq ≠ w.heap.size by omega)) (show gq ≠ w.heap.size by omega)
                    have HWI : Hid (Wi ((W6.drew.setCell ⟨w.heap.size, 0, none⟩ (.slice (some ⟨gq, 0, none⟩) n n)).setCell ⟨w.heap.size, 1, none⟩ (.int .i64 zn)) w.heap.size (some ⟨gq, 0, none⟩) n) := Lib.hid fun _ => ⟨gq, _, rfl, by omega, V4⟩
                    have HRI : Hid (RdI ((W6.drew.setCell ⟨w.heap.size, 0, none⟩ (.slice (some ⟨gq, 0, none⟩) n n)).setCell ⟨w.heap.size, 1, none⟩ (.int .i64 zn)) 3 .i64 (some ⟨gq, 0, none⟩) n (L1.take n)) := Lib.hid ⟨by rw [List.length_take, HLL.out]; omega, by omega, fun _ => ⟨gq, 0, _, _, rfl, V4, fun j hj => by
                      rw [Nat.zero_add, List.getElem?_toArray]
                      unfold ints
                      rw [List.getElem?_map, List.getElem?_take_of_lt hj, List.getD_eq_getElem?_getD, List.getElem?_take_of_lt hj, List.getElem?_eq_getElem (by rw [HLL.out]; omega)]
                      rfl⟩⟩
                    have HV1' := Lib.hid V1
                    have HV2' := Lib.hid V2
                    refine wp_region_U (n := 6) (fun W => (W.cell? ⟨gq + 1, 0, none⟩ = some (Value.slice (some ⟨gq, 0, none⟩) n n) ∧ W.cell? ⟨gq + 1, 1, none⟩ = some (Value.int .i64 zn)) ∧ W.cell? ⟨gq + 1 + 1, n + 1, none⟩ = some (Value.int .i64 zm)) (by kernel_rfl) ?_
                    generalize W6.drew = W7 at *
                    refine wpU_take (n := 6) (i := 0) (v := ?_) (by decide) (by kernel_rfl) rfl (by kernel_rfl) (by kernel_rfl) (by kernel_rfl) (fun _ _ _ h => h) (by kernel_rfl) (Or.inl ⟨by rfl, ?_⟩) hS0 ?_
                    rotate_left
                    · intro w' hSw
                      (try dsimp only at hSw)
                      go_simp
                      (try with_reducible rfl)
                    try simp only [Act.put, List.setIfInBounds_toArray, List.set_cons_zero, List.set_cons_succ]
                    refine wpU_take (n := 6) (i := 1) (v := ?_) (by decide) (by kernel_rfl) rfl (by kernel_rfl) (by kernel_rfl) (by kernel_rfl) (fun _ _ _ h => h) (by kernel_rfl) (Or.inl ⟨by rfl, ?_⟩) hS0 ?_
                    rotate_left
                    · intro w' hSw
                      (try dsimp only at hSw)
                      go_simp
                      (try with_reducible rfl)
                    try simp only [Act.put, List.setIfInBounds_toArray, List.set_cons_zero, List.set_cons_succ]
                    refine wpU_take (n := 6) (i := 2) (v := ?_) (by decide) (by kernel_rfl) rfl (by kernel_rfl) (by kernel_rfl) (by kernel_rfl) (fun _ _ _ h => h) (by kernel_rfl) (Or.inl ⟨by rfl, ?_⟩) hS0 ?_
                    rotate_left
                    · intro w' hSw
                      (try dsimp only at hSw)
                      go_simp
                      (try with_reducible rfl)
                    try simp only [Act.put, List.setIfInBounds_toArray, List.set_cons_zero, List.set_cons_succ]
                    refine wpU_take (n := 6) (i := 3) (v := ?_) (by decide) (by kernel_rfl) rfl (by kernel_rfl) (by kernel_rfl) (by kernel_rfl) (fun _ _ _ h => h) (by kernel_rfl) (Or.inl ⟨by rfl, ?_⟩) hS0 ?_
                    rotate_left
                    · intro w' hSw
                      (try dsimp only at hSw)
                      go_simp
                      (try with_reducible rfl)
                    try simp only [Act.put, List.setIfInBounds_toArray, List.set_cons_zero, List.set_cons_succ]
                    refine wpU_take (n := 6) (i := 4) (v := ?_) (by decide) (by kernel_rfl) rfl (by kernel_rfl) (by kernel_rfl) (by kernel_rfl) (fun _ _ _ h => h) (by kernel_rfl) (Or.inl ⟨by rfl, ?_⟩) hS0 ?_
                    rotate_left
                    · intro w' hSw
                      (try dsimp only at hSw)
                      go_simp
                      (try with_reducible rfl)
                    try simp only [Act.put, List.setIfInBounds_toArray, List.set_cons_zero, List.set_cons_succ]
                    refine wpU_one (n := 6) (i := 5) (by kernel_rfl) rfl (fun K9 hK9 => ?_)
                    go_simp
                    refine hK9.out _ _ (fun _ _ => hS5) (fun _ => ?_)
                    clear hK9 K9
                    try simp only [Act.put, List.setIfInBounds_toArray, List.set_cons_zero, List.set_cons_succ]
                    refine wpU_one (n := 6) (i := 6) (by kernel_rfl) rfl (fun K9 hK9 => ?_)
                    go_simp
                    refine hK9.out _ _ (fun _ h => absurd rfl h) (fun _ => ?_)
                    clear hK9 K9
                    try simp only [Act.put, List.setIfInBounds_toArray, List.set_cons_zero, List.set_cons_succ]
                    refine wpU_one (n := 6) (i := 7) (by kernel_rfl) rfl (fun K9 hK9 => ?_)
                    go_simp
                    refine hK9.out _ _ (fun h => absurd h (by decide)) (fun _ => ?_)
                    clear hK9 K9
                    try simp only [Act.put, List.setIfInBounds_toArray, List.set_cons_zero, List.set_cons_succ]
                    refine wpU_done (by kernel_rfl) ?_ _
                    clear V1 V2 V4 hS0 hS5
                    go_wp2
                    refine bodyPost_ret (results_cell_tmp2_row rfl _ _ w.heap.size 30 #[.slice (some ⟨gq, 0, none⟩) n n, .int .i64 zn] (0, 0) _ _ _ rfl HV1'.out Try.underlying30 rfl (by kernel_rfl) rfl rfl) rfl ?_
                    have e1 := HZN.out
                    have e2 := HZM.out
                    subst e1 e2
                    exact ⟨⟨_, rfl, _, _, _, rfl, HRI.out, HWI.out⟩, HV2'.out⟩
      · have hy := DIM hok hok' (fun e => hmm (by rw [← L.out, ← L'.out, e]))
        subst hy
        have hmI : ((m : Int) != (m' : Int)) = true := by simpa using fun e => hmm (by omega)
        clear NO DIM YES FULL hok hok'
        have V1 := blk_set2 az (.slice none 0 0) (.int .i64 0)
        have V2 := bl_set (bl_set B0 (p := ⟨w.heap.size, 0, none⟩) (Nat.le_refl _) (.slice none 0 0)) (p := ⟨w.heap.size, 1, none⟩) (Nat.le_refl _) (.int .i64 0)
        obtain ⟨z1, z2, z3, z4⟩ := bx2 az
        go_wp2
        refine bodyPost_ret (results_cell_tmp2_row rfl _ _ w.heap.size 30 #[.slice none 0 0, .int .i64 0] (0, 0) _ _ _ rfl V1 Try.underlying30 rfl (by kernel_rfl) rfl rfl) rfl ?_
        exact ⟨⟨_, rfl, _, _, _, rfl, ⟨rfl, by omega, fun h => absurd h (by omega)⟩, Wi.nil _ _ _⟩, V2⟩
    · rw [decide_eq_false hok'] at he
      subst he
      have hy := NO (fun hh => hok' hh.2)
      subst hy
      clear NO DIM YES FULL hok hok'
      have V1 := blk_set2 az (.slice none 0 0) (.int .i64 0)
      have V2 := bl_set (bl_set B0 (p := ⟨w.heap.size, 0, none⟩) (Nat.le_refl _) (.slice none 0 0)) (p := ⟨w.heap.size, 1, none⟩) (Nat.le_refl _) (.int .i64 0)
      obtain ⟨z1, z2, z3, z4⟩ := bx2 az
      go_wp2
      refine bodyPost_ret (results_cell_tmp2_row rfl _ _ w.heap.size 30 #[.slice none 0 0, .int .i64 0] (0, 0) _ _ _ rfl V1 Try.underlying30 rfl (by kernel_rfl) rfl rfl) rfl ?_
      exact ⟨⟨_, rfl, _, _, _, rfl, ⟨rfl, by omega, fun h => absurd h (by omega)⟩, Wi.nil _ _ _⟩, V2⟩
  · rw [decide_eq_false hok] at he
    subst he
    have hy := NO (fun hh => hok hh.1)
    subst hy
    clear NO DIM YES FULL hok
    have V1 := blk_set2 az (.slice none 0 0) (.int .i64 0)
    have V2 := bl_set (bl_set B0 (p := ⟨w.heap.size, 0, none⟩) (Nat.le_refl _) (.slice none 0 0)) (p := ⟨w.heap.size, 1, none⟩) (Nat.le_refl _) (.int .i64 0)
    obtain ⟨z1, z2, z3, z4⟩ := bx2 az
    go_wp2
    refine bodyPost_ret (results_cell_tmp2_row rfl _ _ w.heap.size 30 #[.slice none 0 0, .int .i64 0] (0, 0) _ _ _ rfl V1 Try.underlying30 rfl (by kernel_rfl) rfl rfl) rfl ?_
    exact ⟨⟨_, rfl, _, _, _, rfl, ⟨rfl, by omega, fun h => absurd h (by omega)⟩, Wi.nil _ _ _⟩, V2⟩
end Go.Proofs.Ytjmbpeniibdnoaa
