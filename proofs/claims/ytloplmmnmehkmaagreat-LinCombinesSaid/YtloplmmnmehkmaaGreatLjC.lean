/- Reference 02: Combine; LinCombines: plain law. LinCombines: the walk. -/
import Derived.Test.YtloplmmnmehkmaaGreatLjB
import Derived.Test.YtloplmmnmehkmaaGreatRSu
set_option linter.unusedVariables false
set_option linter.unusedSimpArgs false
namespace Go.Proofs.YtloplmmnmehkmaaGreat
open Go.RowKit

theorem okfs_len {n : Int} {F : List Fm} (h : OkFs n F) : ∀ f ∈ F, f.1.length = n.toNat := fun f hf => by
 have h1 := h.2.2 f hf
 have h2 := h1.2.1
 omega
theorem okfs_sz {n : Int} {F : List Fm} (h : OkFs n F) : ∀ f ∈ F, (∀ j, Sz 100 (f.1.getD j 0)) ∧ Sz 100 f.2 := fun f hf => ⟨okf_sz (h.2.2 f hf), mid_sz (h.2.2 f hf).2.2.1⟩
theorem su_len (n : Nat) (F : List Fm) (M : List (Int × Int)) : (suG n F M).1.length = n := by
 show (List.map _ _).length = n
 rw [List.length_map]
 exact gZ_len M _ _
theorem cb_law {n : Nat} {F : List Fm} {M : List (Int × Int)} (h1 : OkFs n F) (h2 : OkNs M) (h3 : F.length = M.length) :
  cbF n F M = if midF (suG n F M) ∧ mid (suK n F M) then (suG n F M, suK n F M, 0) else (([], 0), 0, 3) := by
 have hF : ∀ j, j < F.length → (F.getD j ([], 0)).1.length = n := fun j hj => by
  have := okfs_len h1 _ (mem_getD (d := (([], 0) : Fm)) hj)
  rwa [Int.toNat_natCast] at this
 have hl := su_len n F M
 unfold cbF
 rw [if_pos ⟨h1, h2⟩, if_pos h3, Int.toNat_natCast, comb_law M hF h3]
 generalize suG n F M = G at *
 generalize suK n F M = K at *
 obtain ⟨g, g0⟩ := G
 have hl : g.length = n := hl
 have he : (∀ z ∈ g ++ [g0] ++ [K], mid z) ↔ midF (g, g0) ∧ mid K := by
  constructor
  ·exact fun h => ⟨⟨fun z hz => h z (by simp [hz]), h g0 (by simp)⟩, h K (by simp)⟩
  ·intro h z hz
   rcases List.mem_append.1 hz with hz | hz
   ·rcases List.mem_append.1 hz with hz | hz
    ·exact h.1.1 z hz
    ·rw [List.mem_singleton] at hz; rw [hz]; exact h.1.2
   ·rw [List.mem_singleton] at hz; rw [hz]; exact h.2
 by_cases hm : midF (g, g0) ∧ mid K
 ·rw [if_pos hm, if_pos (he.2 hm)]
  have e1 : (g ++ [g0] ++ [K]).take n = g := by rw [List.append_assoc, ← hl, List.take_left]
  have e2 : (g ++ [g0] ++ [K]).getD n 0 = g0 := by rw [List.getD_eq_getElem?_getD, List.append_assoc, List.getElem?_append_right (by omega), hl, Nat.sub_self]; rfl
  have e3 : (g ++ [g0] ++ [K]).getD (n + 1) 0 = K := by rw [List.getD_eq_getElem?_getD, List.getElem?_append_right (by simp; omega)]; simp [hl]
  rw [e1, e2, e3]
 ·rw [if_neg hm, if_neg (fun h => hm (he.1 h))]
set_option maxHeartbeats 40000000
set_option maxRecDepth 100000
theorem r2comb_calls (n : Int) (A : Option Addr) (m c : Nat) (F : List Fm) (A' : Option Addr) (m' c' : Nat) (M : List (Int × Int)) (w : World) (h : RdF w A m F) (hi : ∀ f ∈ F, I64F f) (hm : m ≤ 500) (h' : RdN w A' m' M) (hi' : I64s M) (hm' : m' ≤ 500) :
  Calls Tryz.prog 24 #[.int .i64 n, .slice A m c, .slice A' m' c'] w fun e w' => (∃ v, e = .returned (.tuple #[v, .int .i64 (cbF n F M).2.1, .int .i64 (cbF n F M).2.2]) ∧ FmR v w' (cbF n F M).1) ∧ Below w.heap.size w w' := by
 have L := Lib.hid h.1
 have L' := Lib.hid h'.1
 have HI := Lib.hid hi
 have HI' := Lib.hid hi'
 have NO : ¬ (OkFs n F ∧ OkNs M) → cbF n F M = (([], 0), 0, 1) := fun hh => if_neg hh
 have DIM : OkFs n F → OkNs M → F.length ≠ M.length → cbF n F M = (([], 0), 0, 2) := fun h1 h2 hh => by unfold cbF; rw [if_pos ⟨h1, h2⟩, if_neg hh]
 have YES : ∀ k : Nat, n = k → OkFs n F → OkNs M → F.length = M.length → cbF n F M = if midF (suG k F M) ∧ mid (suK k F M) then (suG k F M, suK k F M, 0) else (([], 0), 0, 3) := fun k e h1 h2 h3 => by subst e; exact cb_law h1 h2 h3
 generalize cbF n F M = E9 at *
 clear hi hi'
 go_enter Tryz.func24, Tryz.ntmps24
 have az := blk_at (W := w) (.cells #[.slice none 0 0, .int .i64 0] 44) rfl
 have B0 := bl_alloc (Below.refl w.heap.size w) (.cells #[.slice none 0 0, .int .i64 0] 44)
 replace h := h.below B0
 replace h' := h'.below B0
 go_wp2_with fail
 refine (r2vforms_calls n A m c F _ h).mono ?_
 rintro e w1 ⟨he, hB⟩
 replace az := blk_below az hB
 replace B0 := bl_then B0 hB
 replace h := h.below hB
 replace h' := h'.below hB
 clear hB
 by_cases hok : OkFs n F
 ·rw [decide_eq_true hok] at he
  subst he
  go_wp2_with fail
  refine (rall_calls A' m' c' M _ h' HI'.out).mono ?_
  rintro e w2 ⟨he, hB⟩
  replace az := blk_below az hB
  replace B0 := bl_then B0 hB
  replace h := h.below hB
  replace h' := h'.below hB
  clear hB
  by_cases hok' : OkNs M
  ·rw [decide_eq_true hok'] at he
   subst he
   obtain ⟨n, rfl⟩ : ∃ nn : Nat, n = nn := ⟨n.toNat, by have := hok.1.1; omega⟩
   by_cases hmm : m = m'
   ·subst hmm
    have hFM : F.length = M.length := by rw [L.out, L'.out]
    have HY := Lib.hid (YES n rfl hok hok' hFM)
    have hn8 : n ≤ 8 := by have := hok.1.2; omega
    have hm120 : m ≤ 120 := by have := hok.2.1; rw [L.out] at this; exact this
    have HFS : Hid (∀ f ∈ F, f.1.length = n ∧ (∀ j, Sz 100 (f.1.getD j 0)) ∧ Sz 100 f.2) := Lib.hid fun f hf => ⟨by have := okfs_len hok f hf; rwa [Int.toNat_natCast] at this, okfs_sz hok f hf⟩
    have HMS : Hid (∀ j, SzR 61 (ratQ (M.getD j (0, 0)))) := Lib.hid fun j => by
     rcases Nat.lt_or_ge j M.length with hj | hj
     ·exact ratP_sz (hok' _ (mem_getD (d := ((0, 0) : Int × Int)) hj))
     ·rw [List.getD_eq_getElem?_getD, List.getElem?_eq_none hj]
      exact SzR.mono (k := 1) ⟨by unfold Sz; decide, by unfold Sz; decide⟩ (by omega)
    have HO' := Lib.hid hok'
    clear NO DIM YES hok hok' hFM
    go_wp2_with fail
    refine (r2all_calls A m c F _ h (fun f hf => ⟨HI.out f hf, by have := (HFS.out f hf).1; omega⟩) hm).mono ?_
    rintro e w3 ⟨⟨A2, c2, rfl, tr⟩, hB⟩
    replace az := blk_below az hB
    replace B0 := bl_then B0 hB
    replace h' := h'.below hB
    clear hB h
    go_wp2_with fail
    refine (r2rats_calls A' m c' M _ h' HI'.out HO'.out hm).mono ?_
    rintro e w4 ⟨⟨A3, c3, rfl, tq⟩, hB⟩
    replace az := blk_below az hB
    replace B0 := bl_then B0 hB
    replace tr := tr.below hB
    clear hB h'
    go_wp2_with fail
    refine (r2sum_calls n A2 m c2 F A3 c3 M _ tr tq hn8 hm120 L'.out HFS.out HMS.out).mono ?_
    rintro e w5 ⟨⟨Ag, cg, xg, yk, rfl, tg, tx, ty⟩, hB⟩
    replace az := blk_below az hB
    replace B0 := bl_then B0 hB
    clear hB tr tq
    generalize suG n F M = G at *
    generalize suK n F M = K at *
    have ag := blk_alloc (blk_at (W := w5) (.cells #[.slice Ag n cg, .int .i64 xg.s, .bool xg.g, .slice xg.A xg.n xg.c] 60) rfl) (.cells #[.int .i64 yk.s, .bool yk.g, .slice yk.A yk.n yk.c] 49)
    have ak := blk_at (W := w5.alloc (.cells #[.slice Ag n cg, .int .i64 xg.s, .bool xg.g, .slice xg.A xg.n xg.c] 60)) (.cells #[.int .i64 yk.s, .bool yk.g, .slice yk.A yk.n yk.c] 49) rfl
    have BX : Below w5.heap.size w5 ((w5.alloc (.cells #[.slice Ag n cg, .int .i64 xg.s, .bool xg.g, .slice xg.A xg.n xg.c] 60)).alloc (.cells #[.int .i64 yk.s, .bool yk.g, .slice yk.A yk.n yk.c] 49)) := bl_alloc (bl_alloc (Below.refl _ _) _) _
    simp only [World.size_alloc] at ak
    replace az := blk_below az BX
    replace B0 := bl_then B0 BX
    replace tg := tg.below BX
    replace tx := RV.below tx BX
    replace ty := RV.below ty BX
    clear BX
    obtain ⟨f1, f2, f3, f4, f5⟩ := q4c ag
    go_wp2_with fail
    generalize w5.heap.size = g9 at *
    generalize (w5.alloc (.cells #[.slice Ag n cg, .int .i64 xg.s, .bool xg.g, .slice xg.A xg.n xg.c] 60)).alloc (.cells #[.int .i64 yk.s, .bool yk.g, .slice yk.A yk.n yk.c] 49) = W6 at *
    refine (r2fromg_calls Ag n cg xg G.1 G.2 _ tg.1 tx).mono ?_
    rintro e w6 ⟨⟨v, rfl, tv⟩, hB⟩
    replace az := blk_below az hB
    replace ak := blk_below ak hB
    replace B0 := bl_then B0 hB
    replace ty := RV.below ty hB
    clear hB tg tx ag f1 f2 f3 f4 f5
    obtain ⟨Av, nv, cv, rfl, tv⟩ := tv
    have HFF : Hid ((if midF (G.1, G.2) then (G.1, G.2) else (([], 0) : Fm)) = if midF G then G else ([], 0)) := Lib.hid rfl
    rw [HFF.out] at tv
    have hD : decide (midF (G.1, G.2)) = decide (midF G) := rfl
    rw [hD]
    clear HFF hD
    have HIT : Hid (midF G → (if midF G then G else (([], 0) : Fm)) = G) := Lib.hid fun h => if_pos h
    generalize hu : (if midF G then G else (([], 0) : Fm)) = U at *
    obtain ⟨us, u0⟩ := U
    dsimp only at tv
    have af := blk_at (W := w6) (.cells #[.slice Av nv cv, .int .i64 u0] 44) rfl
    have BX : Below w6.heap.size w6 (w6.alloc (.cells #[.slice Av nv cv, .int .i64 u0] 44)) := bl_alloc (Below.refl _ _) _
    replace az := blk_below az BX
    replace ak := blk_below ak BX
    replace B0 := bl_then B0 BX
    replace ty := RV.below ty BX
    replace tv := tv.below BX
    clear BX hu
    obtain ⟨⟨f1, f2, f3⟩, f4⟩ := bx3 ak
    go_wp2_with fail
    generalize w6.heap.size = g11 at *
    generalize w6.alloc (.cells #[.slice Av nv cv, .int .i64 u0] 44) = W7 at *
    refine (small_any yk.s yk.g yk.A yk.n yk.c K _ ty).mono ?_
    rintro e w8 ⟨rfl, hB⟩
    replace az := blk_below az hB
    replace af := blk_below af hB
    replace B0 := bl_then B0 hB
    replace tv := tv.below hB
    clear hB f1 f2 f3 f4 ak ty
    have HSV : Hid (mid K → smV K = K) := Lib.hid fun h => if_pos h
    have HSB : Hid (smB K = decide (mid K)) := Lib.hid rfl
    generalize smV K = kv at *
    generalize smB K = kb at *
    by_cases h1 : midF G
    ·have e1 := HIT.out h1
     by_cases h2 : mid K
     ·have hy := HY.out
      rw [if_pos ⟨h1, h2⟩] at hy
      have ek := HSV.out h2
      have eb := HSB.out
      rw [decide_eq_true h2] at eb
      rw [decide_eq_true h1]
      subst hy ek eb
      have e2 : us = G.1 := by rw [← e1]
      have e3 : u0 = G.2 := by rw [← e1]
      rw [e2] at tv
      rw [e3] at af
      clear HY HSV HSB HIT e1 h1 h2 e2 e3
      obtain ⟨q1, q2, q3, q4⟩ := bx2 af
      obtain ⟨z1, z2, z3, z4⟩ := bx2 az
      have V1 := blk_set2 az (.slice Av nv cv) (.int .i64 G.2)
      have V2 := bl_set (bl_set B0 (p := ⟨w.heap.size, 0, none⟩) (Nat.le_refl _) (.slice Av nv cv)) (p := ⟨w.heap.size, 1, none⟩) (Nat.le_refl _) (.int .i64 G.2)
      have V3 : RdI ((w8.setCell ⟨w.heap.size, 0, none⟩ (.slice Av nv cv)).setCell ⟨w.heap.size, 1, none⟩ (.int .i64 G.2)) 3 .i64 Av nv G.1 := tv.kp (((Kp.refl 3 w8).set (p := ⟨w.heap.size, 0, none⟩) az (by decide) (.slice Av nv cv)).set (p := ⟨w.heap.size, 1, none⟩) (blk_set az 0 _) (by decide) (.int .i64 G.2))
      go_wp2
      refine bodyPost_ret (results_cell_tmp2_row rfl _ _ w.heap.size 44 #[.slice Av nv cv, .int .i64 G.2] (0, 0) _ _ _ rfl V1 Tryz.underlying44 rfl (by kernel_rfl) rfl rfl) rfl ?_
      exact ⟨⟨_, rfl, Av, nv, cv, rfl, V3⟩, V2⟩
     ·have hy := HY.out
      rw [if_neg (fun h => h2 h.2)] at hy
      have eb := HSB.out
      rw [decide_eq_false h2] at eb
      rw [decide_eq_true h1]
      subst hy eb
      clear HY HSV HSB HIT e1 h1 h2 tv af
      have V1 := blk_set2 az (.slice none 0 0) (.int .i64 0)
      have V2 := bl_set (bl_set B0 (p := ⟨w.heap.size, 0, none⟩) (Nat.le_refl _) (.slice none 0 0)) (p := ⟨w.heap.size, 1, none⟩) (Nat.le_refl _) (.int .i64 0)
      obtain ⟨z1, z2, z3, z4⟩ := bx2 az
      go_wp2
      refine bodyPost_ret (results_cell_tmp2_row rfl _ _ w.heap.size 44 #[.slice none 0 0, .int .i64 0] (0, 0) _ _ _ rfl V1 Tryz.underlying44 rfl (by kernel_rfl) rfl rfl) rfl ?_
      exact ⟨⟨_, rfl, _, _, _, rfl, rfl, by omega, fun h => absurd h (by omega)⟩, V2⟩
    ·have hy := HY.out
     rw [if_neg (fun h => h1 h.1)] at hy
     rw [decide_eq_false h1]
     subst hy
     clear HY HSV HSB HIT h1 tv af
     have V1 := blk_set2 az (.slice none 0 0) (.int .i64 0)
     have V2 := bl_set (bl_set B0 (p := ⟨w.heap.size, 0, none⟩) (Nat.le_refl _) (.slice none 0 0)) (p := ⟨w.heap.size, 1, none⟩) (Nat.le_refl _) (.int .i64 0)
     obtain ⟨z1, z2, z3, z4⟩ := bx2 az
     go_wp2
     refine bodyPost_ret (results_cell_tmp2_row rfl _ _ w.heap.size 44 #[.slice none 0 0, .int .i64 0] (0, 0) _ _ _ rfl V1 Tryz.underlying44 rfl (by kernel_rfl) rfl rfl) rfl ?_
     exact ⟨⟨_, rfl, _, _, _, rfl, rfl, by omega, fun h => absurd h (by omega)⟩, V2⟩
   ·have hy := DIM hok hok' (fun e => hmm (by rw [← L.out, ← L'.out, e]))
    subst hy
    have hmI : ((m : Int) != (m' : Int)) = true := by simpa using fun e => hmm (by omega)
    have hmJ : ¬ ((m : Int) = (m' : Int)) := fun e => hmm (by omega)
    clear NO DIM YES hok hok'
    have V1 := blk_set2 az (.slice none 0 0) (.int .i64 0)
    have V2 := bl_set (bl_set B0 (p := ⟨w.heap.size, 0, none⟩) (Nat.le_refl _) (.slice none 0 0)) (p := ⟨w.heap.size, 1, none⟩) (Nat.le_refl _) (.int .i64 0)
    obtain ⟨z1, z2, z3, z4⟩ := bx2 az
    go_wp2
    refine bodyPost_ret (results_cell_tmp2_row rfl _ _ w.heap.size 44 #[.slice none 0 0, .int .i64 0] (0, 0) _ _ _ rfl V1 Tryz.underlying44 rfl (by kernel_rfl) rfl rfl) rfl ?_
    exact ⟨⟨_, rfl, _, _, _, rfl, rfl, by omega, fun h => absurd h (by omega)⟩, V2⟩
  ·rw [decide_eq_false hok'] at he
   subst he
   have hy := NO (fun hh => hok' hh.2)
   subst hy
   clear NO DIM YES hok hok'
   have V1 := blk_set2 az (.slice none 0 0) (.int .i64 0)
   have V2 := bl_set (bl_set B0 (p := ⟨w.heap.size, 0, none⟩) (Nat.le_refl _) (.slice none 0 0)) (p := ⟨w.heap.size, 1, none⟩) (Nat.le_refl _) (.int .i64 0)
   obtain ⟨z1, z2, z3, z4⟩ := bx2 az
   go_wp2
   refine bodyPost_ret (results_cell_tmp2_row rfl _ _ w.heap.size 44 #[.slice none 0 0, .int .i64 0] (0, 0) _ _ _ rfl V1 Tryz.underlying44 rfl (by kernel_rfl) rfl rfl) rfl ?_
   exact ⟨⟨_, rfl, _, _, _, rfl, rfl, by omega, fun h => absurd h (by omega)⟩, V2⟩
 ·rw [decide_eq_false hok] at he
  subst he
  have hy := NO (fun hh => hok hh.1)
  subst hy
  clear NO DIM YES hok
  have V1 := blk_set2 az (.slice none 0 0) (.int .i64 0)
  have V2 := bl_set (bl_set B0 (p := ⟨w.heap.size, 0, none⟩) (Nat.le_refl _) (.slice none 0 0)) (p := ⟨w.heap.size, 1, none⟩) (Nat.le_refl _) (.int .i64 0)
  obtain ⟨z1, z2, z3, z4⟩ := bx2 az
  go_wp2
  refine bodyPost_ret (results_cell_tmp2_row rfl _ _ w.heap.size 44 #[.slice none 0 0, .int .i64 0] (0, 0) _ _ _ rfl V1 Tryz.underlying44 rfl (by kernel_rfl) rfl rfl) rfl ?_
  exact ⟨⟨_, rfl, _, _, _, rfl, rfl, by omega, fun h => absurd h (by omega)⟩, V2⟩
end Go.Proofs.YtloplmmnmehkmaaGreat

namespace Go.Proofs.YtloplmmnmehkmaaGreat
open Go.RowKit

set_option maxHeartbeats 40000000
set_option maxRecDepth 100000
theorem lincomb_walk (n : Int) (A : Option Addr) (m c : Nat) (F : List Fm) (A' : Option Addr) (m' c' : Nat) (M : List (Int × Int)) (w : World) (h : RdF w A m F) (hi : ∀ f ∈ F, I64F f) (h' : RdN w A' m' M) (hi' : I64s M) :
  Calls Tryz.prog 6 #[.int .i64 n, .slice A m c, .slice A' m' c'] w fun e w' => e = .returned (.bool true) ∧ Below w.heap.size w w' := by
 have L := Lib.hid h.1
 have L' := Lib.hid h'.1
 have HI := Lib.hid hi
 have HI' := Lib.hid hi'
 have hm9 := h'.2.1
 clear hi hi'
 go_enter Tryz.func6, Tryz.ntmps6
 go_wp2_with fail
 refine (lfew_calls A m c F _ h).mono ?_
 rintro e w1 ⟨he, B0⟩
 by_cases hfew : fewP F
 ·rw [decide_eq_true hfew] at he
  subst he
  have hm : m ≤ 500 := by have := hfew.2; have := L.out; omega
  have HLN : Hid (∀ f ∈ F, f.1.length ≤ 1000000) := Lib.hid fun f hf => by have := hfew.1 f hf; omega
  clear hfew
  by_cases h140 : m' ≤ 140
  ·have d1 : ¬ (140 : Int) < (m' : Int) := by omega
   have d2 : decide ((140 : Int) < (m' : Int)) = false := decide_eq_false d1
   have C1 := Lib.hid fun W (hB : Below w.heap.size w W) => lcomb_calls n A m c F A' m' c' M W (h.below hB) HI.out HLN.out hm (h'.below hB) HI'.out
   have C2 := Lib.hid fun W (hB : Below w.heap.size w W) => r2comb_calls n A m c F A' m' c' M W (h.below hB) HI.out hm (h'.below hB) HI'.out (by omega)
   generalize cbF n F M = E at *
   obtain ⟨p, k, e0⟩ := E
   dsimp only at C1 C2
   go_wp2_with fail
   refine (C1.out _ B0).mono ?_
   rintro e w3 ⟨⟨v3, rfl, Ap, np, cp, rfl, tp⟩, hB⟩
   replace tp := tp.toC
   have a7 := blk_at (W := w3) (.cells #[.slice Ap np cp, .int .i64 p.2] 44) rfl
   have B1 := bl_alloc (bl_then B0 hB) (.cells #[.slice Ap np cp, .int .i64 p.2] 44)
   replace tp := tp.below (bl_alloc (Below.refl w3.heap.size w3) (.cells #[.slice Ap np cp, .int .i64 p.2] 44))
   clear hB C1 B0
   go_wp2_with fail
   generalize w3.heap.size = g7 at *
   generalize w3.alloc (.cells #[.slice Ap np cp, .int .i64 p.2] 44) = W4 at *
   refine (C2.out _ B1).mono ?_
   rintro e w4 ⟨⟨v4, rfl, Aq, nq, cq, rfl, tq⟩, hB⟩
   replace tq := tq.toC
   have a10 := blk_at (W := w4) (.cells #[.slice Aq nq cq, .int .i64 p.2] 44) rfl
   have BX : Below w4.heap.size w4 (w4.alloc (.cells #[.slice Aq nq cq, .int .i64 p.2] 44)) := bl_alloc (Below.refl _ _) _
   replace a7 := blk_below (blk_below a7 hB) BX
   replace tp := (tp.below hB).below BX
   replace tq := tq.below BX
   have B0 := bl_then (bl_then B1 hB) BX
   have hnn : np = nq := by rw [← tp.1, ← tq.1]
   subst hnn
   clear hB C2 B1 BX
   obtain ⟨f1, f2, f3, f4⟩ := bx2 a7
   obtain ⟨g1, g2, g3, g4⟩ := bx2 a10
   go_wp2_with fail
   generalize w4.heap.size = g10 at *
   generalize w4.alloc (.cells #[.slice Aq np cq, .int .i64 p.2] 44) = W5 at *
   refine (lsform_calls Ap np cp Aq cq p _ tp tq).mono ?_
   rintro e w5 ⟨rfl, hB⟩
   replace B0 := bl_then B0 hB
   clear hB f1 f2 f3 f4 g1 g2 g3 g4 a7 a10 tp tq
   have d3 : (k == k) = true := by simp
   have d4 : (e0 == e0) = true := by simp
   have d5 : decide (k = k) = true := by simp
   have d6 : decide (e0 = e0) = true := by simp
   go_wp2_with fail
   refine (lawake_calls _).mono ?_
   rintro e wz ⟨rfl, hBz⟩
   have Bz := bl_then B0 hBz
   go_wp2
   go_ret
   exact ⟨rfl, Bz⟩
  ·have d1 : (140 : Int) < (m' : Int) := by omega
   have d2 : decide ((140 : Int) < (m' : Int)) = true := decide_eq_true d1
   go_wp2_with fail
   refine (lawake_calls _).mono ?_
   rintro e wz ⟨rfl, hBz⟩
   have Bz := bl_then B0 hBz
   go_wp2
   go_ret
   exact ⟨rfl, Bz⟩
 ·rw [decide_eq_false hfew] at he
  subst he
  clear hfew
  go_wp2_with fail
  refine (lawake_calls _).mono ?_
  rintro e wz ⟨rfl, hBz⟩
  have Bz := bl_then B0 hBz
  go_wp2
  go_ret
  exact ⟨rfl, Bz⟩
end Go.Proofs.YtloplmmnmehkmaaGreat
