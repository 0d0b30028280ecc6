/- Reference 02: Sum. -/
import Derived.Test.YtloplmmnmehkmaaGreatLjB
set_option linter.unusedVariables false
set_option linter.unusedSimpArgs false
namespace Go.Proofs.YtloplmmnmehkmaaGreat
open Go.RowKit
open List (setIfInBounds_toArray set_cons_zero set_cons_succ)

section
open Go
variable {P : Program} {md : Region.Mode} {ops : Array Oper} {Q : Exit → Act → World → Prop} {S : World → Prop}
theorem wpU_three {n i k l : Nat} {o o2 o3 : Oper} {fuel : Nat} {listed : Array Bool} {a : Act} {w : World} (hr : Region.ready md ops listed = [i, k, l]) (ho : ops[i]? = some o) (ho2 : ops[k]? = some o2) (ho3 : ops[l]? = some o3)
  (h : ∀ K' : Act → World → Prop, Shut (∀ a w, (listed.getD n false = false → i ≠ n → S w) → ((listed.getD n false = false → i ≠ n → S w) → wpU P md ops n Q S fuel (listed.setIfInBounds i true) a w) → K' a w) → if Region.wanted o (yielded ops a.tmps) = true then Oper.wp P o a w K' Q else K' (a.put o.dst undef) w)
  (h2 : ∀ K' : Act → World → Prop, Shut (∀ a w, (listed.getD n false = false → k ≠ n → S w) → ((listed.getD n false = false → k ≠ n → S w) → wpU P md ops n Q S fuel (listed.setIfInBounds k true) a w) → K' a w) → if Region.wanted o2 (yielded ops a.tmps) = true then Oper.wp P o2 a w K' Q else K' (a.put o2.dst undef) w)
  (h3 : ∀ K' : Act → World → Prop, Shut (∀ a w, (listed.getD n false = false → l ≠ n → S w) → ((listed.getD n false = false → l ≠ n → S w) → wpU P md ops n Q S fuel (listed.setIfInBounds l true) a w) → K' a w) → if Region.wanted o3 (yielded ops a.tmps) = true then Oper.wp P o3 a w K' Q else K' (a.put o3.dst undef) w) :
  wpU P md ops n Q S (fuel + 1) listed a w := by
 refine ⟨fun h0 => (by rw [h0] at hr; cases hr), fun j hj => ?_⟩
 rw [hr] at hj
 rcases List.mem_cons.1 hj with rfl | hj
 ·exact wpOp_step ho (fun K' hK => h K' (fun a w hS hW => hK a w ⟨hS, hW hS⟩))
 ·rcases List.mem_cons.1 hj with rfl | hj
  ·exact wpOp_step ho2 (fun K' hK => h2 K' (fun a w hS hW => hK a w ⟨hS, hW hS⟩))
  ·rw [List.mem_singleton] at hj
   subst hj
   exact wpOp_step ho3 (fun K' hK => h3 K' (fun a w hS hW => hK a w ⟨hS, hW hS⟩))
end
theorem blk_f4 {w : World} {g k : Nat} {o : Obj} (h : w.heap[k]? = some o) (hk : k ≠ g) (x y z u : Value) : ((((w.setCell ⟨g, 0, none⟩ x).setCell ⟨g, 1, none⟩ y).setCell ⟨g, 2, none⟩ z).setCell ⟨g, 3, none⟩ u).heap[k]? = some o := blk_far (blk_far3 h hk x y z) hk
theorem heap_set3_other (w : World) {g k : Nat} (hk : k ≠ g) (x y z : Value) : (((w.setCell ⟨g, 0, none⟩ x).setCell ⟨g, 1, none⟩ y).setCell ⟨g, 2, none⟩ z).heap[k]? = w.heap[k]? := by
 rw [heap_setCell_other _ _ _ _ hk, heap_setCell_other _ _ _ _ hk, heap_setCell_other _ _ _ _ hk]
theorem own_far8 {w w' : World} {base n : Nat} {v : Value} {R : List Int} (ho : KR.Own w base v n R) (hs : ∀ k, base ≤ k → w'.heap[k]? = w.heap[k]?) (k : Kp 3 w w') : KR.Own w' base v n R := by
 have hge := ho.ge
 obtain ⟨l, h1, h2, h3, h4⟩ := ho
 refine ⟨l, ⟨h1.1, ?_⟩, h2, h3, fun j hj => RV.kp (h4 j hj) k⟩
 rcases h1.2 with h0 | ⟨g', cap', cur, rfl, hb, hg, r⟩
 ·exact .inl h0
 ·exact .inr ⟨g', cap', cur, rfl, hb, (hs g' hb).trans hg, r⟩
theorem kp_but {W W' : World} {g bs : Nat} {cs : Array Value} {T t : TypeId} (hs : bs = W.heap.size) (hg : W.heap[g]? = some (.cells cs T (0, 0))) (hb : ∀ k, k < bs → k ≠ g → W'.heap[k]? = W.heap[k]?) (ht : T ≠ t) : Kp t W W' := ⟨fun b cs' fr h => by
 have hlt := blk_lt h
 have : b ≠ g := fun e => by
  subst e
  rw [hg] at h
  cases h
  exact ht rfl
 exact (hb b (by omega) this).trans h⟩
theorem kM_sz {M : List (Int × Int)} (hM : ∀ j, SzR 61 (ratQ (M.getD j (0, 0)))) (k : Nat) : Sz (1 + 61 * k) (kM M k) := by
 induction k with
 | zero => show Sz 1 1; unfold Sz; decide
 | succ k ih =>
  show Sz _ (kM M k * ((ratQ (M.getD k (0, 0))).den : Int).tdiv (Int.gcd (kM M k) ((ratQ (M.getD k (0, 0))).den : Int) : Int))
  exact (ih.mul ((hM k).2.le (tdiv_abs _ _))).mono (by omega)
theorem gZ_sz {n : Nat} {F : List Fm} {M : List (Int × Int)} {K : Int} (hM : ∀ j, SzR 61 (ratQ (M.getD j (0, 0)))) (hK : Sz 8000 K) (hF : ∀ f ∈ F, (∀ j, Sz 100 (f.1.getD j 0)) ∧ Sz 100 f.2) (k : Nat) : (∀ j, Sz (17000 + k) ((gZ n F M K k).1.getD j 0)) ∧ Sz (17000 + k) (gZ n F M K k).2 := by
 have z : ∀ a, Sz a 0 := fun a => Nat.two_pow_pos a
 induction k with
 | zero =>
  refine ⟨fun j => ?_, z _⟩
  show Sz _ ((List.replicate n (0 : Int)).getD j 0)
  rw [List.getD_eq_getElem?_getD, List.getElem?_replicate]
  split <;> exact z _
 | succ k ih =>
  have hp : Sz 8061 ((ratQ (M.getD k (0, 0))).num * K.tdiv ((ratQ (M.getD k (0, 0))).den : Int)) := ((hM k).1.mul (hK.le (tdiv_abs _ _))).mono (by omega)
  have hf : (∀ j, Sz 100 ((F.getD k ([], 0)).1.getD j 0)) ∧ Sz 100 (F.getD k ([], 0)).2 := by
   rcases Nat.lt_or_ge k F.length with h | h
   ·exact hF _ (mem_getD h)
   ·rw [List.getD_eq_getElem?_getD, List.getElem?_eq_none h]
    exact ⟨fun j => by show Sz 100 (([] : List Int).getD j 0); exact z _, z _⟩
  refine ⟨fun j => ?_, ?_⟩
  ·exact (plZ_sz (K := 17000 + k) n ih.1 (fun j => map_sz (K := 100) (f := (· * ((ratQ (M.getD k (0, 0))).num * K.tdiv ((ratQ (M.getD k (0, 0))).den : Int)))) (fun z hz => (hz.mul hp).mono (by omega)) hf.1 j) j).mono (by omega)
  ·exact (ih.2.add ((hf.2.mul hp).mono (by omega))).mono (by omega)
set_option maxHeartbeats 40000000
set_option maxRecDepth 100000
theorem r2sum_calls (n : Nat) (A : Option Addr) (m c : Nat) (F : List Fm) (A' : Option Addr) (c' : Nat) (M : List (Int × Int)) (w : World) (h : RdWJ w A m F) (h' : RdRR w A' m (M.map ratP)) (hn : n ≤ 8) (hm : m ≤ 120) (hL : M.length = m) (hF : ∀ f ∈ F, f.1.length = n ∧ (∀ j, Sz 100 (f.1.getD j 0)) ∧ Sz 100 f.2) (hM : ∀ j, SzR 61 (ratQ (M.getD j (0, 0)))) :
  Calls Tryz.prog 72 #[.int .i64 n, .slice A m c, .slice A' m c'] w fun e w' => (∃ (A9 : Option Addr) (c9 : Nat) (x9 y9 : JC), e = .returned (.tuple #[.agg #[.slice A9 n c9, .int .i64 x9.s, .bool x9.g, .slice x9.A x9.n x9.c], .agg #[.int .i64 y9.s, .bool y9.g, .slice y9.A y9.n y9.c]]) ∧ RdT w' A9 n (suG n F M).1 ∧ x9.Is w' (suG n F M).2 ∧ y9.Is w' (suK n F M)) ∧ Below w.heap.size w w' := by
 have L := Lib.hid h.1
 have L' := Lib.hid hL
 have HF := Lib.hid hF
 have HM := Lib.hid hM
 have HKM : Hid (∀ k, k ≤ m → Sz 8000 (kM M k) ∧ kM M k ≠ 0) := Lib.hid fun k hk => ⟨(kM_sz hM k).mono (by omega), by have := (kM_pos M k).1; omega⟩
 clear hF hM hL
 go_enter Tryz.func72, Tryz.ntmps72
 have B0 := bl_alloc (bl_alloc (Below.refl w.heap.size w) (.cells #[.slice none 0 0, .int .i64 0, .bool false, .slice none 0 0] 60)) (.cells #[.int .i64 0, .bool false, .slice none 0 0] 49)
 have ar := blk_alloc (blk_at (W := w) (.cells #[.slice none 0 0, .int .i64 0, .bool false, .slice none 0 0] 60) rfl) (.cells #[.int .i64 0, .bool false, .slice none 0 0] 49)
 have ai := blk_at (W := w.alloc (.cells #[.slice none 0 0, .int .i64 0, .bool false, .slice none 0 0] 60)) (.cells #[.int .i64 0, .bool false, .slice none 0 0] 49) rfl
 simp only [World.size_alloc] at ai
 go_wp2_with fail
 refine (rof_calls 1 _ (by omega) (by omega)).mono ?_
 rintro e w1 ⟨⟨s1, b1, A1, n1, c1, rfl, t1⟩, hB1⟩
 obtain ⟨z0, rfl, rfl, rfl, rfl, rfl, tz0⟩ := jc_mk t1
 replace ar := blk_alloc (blk_below ar hB1) (.cells #[.int .i64 z0.s, .bool z0.g, .slice z0.A z0.n z0.c] 49)
 replace ai := blk_alloc (blk_below ai hB1) (.cells #[.int .i64 z0.s, .bool z0.g, .slice z0.A z0.n z0.c] 49)
 have hgb : w.heap.size + 1 < w1.heap.size := by have := hB1.size; simp at this; omega
 have B1 := bl_alloc (bl_then B0 hB1) (.cells #[.int .i64 z0.s, .bool z0.g, .slice z0.A z0.n z0.c] 49)
 have a8 : (w1.alloc (.cells #[.int .i64 z0.s, .bool z0.g, .slice z0.A z0.n z0.c] 49)).heap[w1.heap.size]? = some (.cells #[.int .i64 z0.s, .bool z0.g, .slice z0.A z0.n z0.c] 49 (0, 0)) := blk_at _ rfl
 have tz := RV.al2 tz0 (.cells #[.int .i64 z0.s, .bool z0.g, .slice z0.A z0.n z0.c] 49)
 clear t1 tz0 B0 hB1
 go_wp2_with fail
 generalize w1.heap.size = g8 at *
 generalize w1.alloc (.cells #[.int .i64 z0.s, .bool z0.g, .slice z0.A z0.n z0.c] 49) = W1 at *
 go_loopw [27] (fun i wr => ∃ (kk : Nat) (z : JC), kk ≤ m ∧ i = .int .i64 kk ∧ wr.heap[g8]? = some (.cells #[.int .i64 z.s, .bool z.g, .slice z.A z.n z.c] 49 (0, 0)) ∧ RV wr z.s z.g z.A z.n z.c (kM M kk) ∧ wr.heap[w.heap.size]? = some (.cells #[.slice none 0 0, .int .i64 0, .bool false, .slice none 0 0] 60 (0, 0)) ∧ wr.heap[w.heap.size + 1]? = some (.cells #[.int .i64 0, .bool false, .slice none 0 0] 49 (0, 0)) ∧ Below w.heap.size w wr) (fun i _ => m - (intOf i).toNat)
 case atStart => exact ⟨0, z0, Nat.zero_le _, rfl, a8, tz, ar, ai, B1⟩
 case round =>
  clear a8 tz ar ai B1

  obtain ⟨kk, z, hkk, rfl, a8, tz, ar, ai, B0⟩ := hrel
  by_cases hlt : kk < m
  ·obtain ⟨gx, rfl, lgx, hcx⟩ := (h'.below B0).2.2 (by omega)
   obtain ⟨y, ⟨p1, p2, p3, p4, p5, p6⟩, ty0⟩ := hcx kk hlt
   rw [getD_map ratP M kk (0, 0) 0 (by rw [L'.out]; exact hlt)] at ty0
   have ty : RRV wr y.s y.g y.A y.n y.c y.s' y.g' y.A' y.n' y.c' (ratQ (M.getD kk (0, 0))) := ty0
   have HNX : Hid (kM M kk * ((ratQ (M.getD kk (0, 0))).den : Int).tdiv (Int.gcd (kM M kk) ((ratQ (M.getD kk (0, 0))).den : Int) : Int) = kM M (kk + 1)) := Lib.hid rfl
   have HK0 := Lib.hid (HKM.out kk hkk).1
   have HKN := Lib.hid (HKM.out kk hkk).2
   have HQD : Hid (Sz 8000 ((ratQ (M.getD kk (0, 0))).den : Int)) := Lib.hid ((HM.out kk).2.mono (by omega))
   have HGD : Hid (Sz 8000 (Int.gcd (kM M kk) ((ratQ (M.getD kk (0, 0))).den : Int) : Int)) := Lib.hid (HK0.out.gcd HQD.out)
   have HGN : Hid ((Int.gcd (kM M kk) ((ratQ (M.getD kk (0, 0))).den : Int) : Int) ≠ 0) := Lib.hid (by
    have := Int.gcd_pos_of_ne_zero_left ((ratQ (M.getD kk (0, 0))).den : Int) HKN.out
    omega)
   clear hcx ty0
   generalize ratQ (M.getD kk (0, 0)) = q at *
   have a10 : (wr.alloc (.cells #[.int .i64 y.s, .bool y.g, .slice y.A y.n y.c, .int .i64 y.s', .bool y.g', .slice y.A' y.n' y.c'] 51)).heap[wr.heap.size]? = some (.cells #[.int .i64 y.s, .bool y.g, .slice y.A y.n y.c, .int .i64 y.s', .bool y.g', .slice y.A' y.n' y.c'] 51 (0, 0)) := blk_at _ rfl
   have BX : Below wr.heap.size wr (wr.alloc (.cells #[.int .i64 y.s, .bool y.g, .slice y.A y.n y.c, .int .i64 y.s', .bool y.g', .slice y.A' y.n' y.c'] 51)) := bl_alloc (Below.refl _ _) _
   replace ty := RRV.below ty BX
   replace tz := RV.below tz BX
   replace a8 := blk_below a8 BX
   replace ar := blk_below ar BX
   replace ai := blk_below ai BX
   replace B0 := bl_then B0 BX
   have hk0 : (0 : Int) ≤ (kk : Int) := by omega
   have hkn : (kk : Int) < (m : Int) := by omega
   go_upto_region 5 with (fail)
   clear BX p1 p2 p3 p4 p5 p6 lgx
   generalize wr.heap.size = g10 at *
   generalize wr.alloc (.cells #[.int .i64 y.s, .bool y.g, .slice y.A y.n y.c, .int .i64 y.s', .bool y.g', .slice y.A' y.n' y.c'] 51) = W5 at *
   generalize kM M kk = kk0 at *
   have tyd : RV W5 y.s' y.g' y.A' y.n' y.c' (q.den : Int) := ty.2
   generalize (q.den : Int) = qd at *
   go_cut [11, 12] (fun p p2 wc => ∃ (g11 : Nat) (u : JC), p = .pointer (some ⟨g11, 0, none⟩) ∧ wc.heap[g11]? = some (.cells #[.int .i64 u.s, .bool u.g, .slice u.A u.n u.c] 49 (0, 0)) ∧ RV wc u.s u.g u.A u.n u.c (qd.tdiv (Int.gcd kk0 qd : Int)) ∧ W5.heap.size ≤ g11 ∧ Below W5.heap.size W5 wc)
   case first =>
    have hSd : ∀ W, Below W5.heap.size W5 W → (W.cell? ⟨g10, 0, none⟩ = some (Value.int .i64 y.s) ∧ W.cell? ⟨g10, 1, none⟩ = some (Value.bool y.g) ∧ W.cell? ⟨g10, 2, none⟩ = some (Value.slice y.A y.n y.c) ∧ W.cell? ⟨g10, 3, none⟩ = some (Value.int .i64 y.s') ∧ W.cell? ⟨g10, 4, none⟩ = some (Value.bool y.g') ∧ W.cell? ⟨g10, 5, none⟩ = some (Value.slice y.A' y.n' y.c')) ∧ W.cell? ⟨g8, 0, none⟩ = some (Value.int .i64 z.s) ∧ W.cell? ⟨g8, 1, none⟩ = some (Value.bool z.g) ∧ W.cell? ⟨g8, 2, none⟩ = some (Value.slice z.A z.n z.c) := fun W hB => And.intro (cx6 (blk_below a10 hB)) (cx3 (blk_below a8 hB))
    have VD : Below W5.heap.size W5 W5.drew := bl_drew (Below.refl _ _)
    have hS0 := hSd _ VD
    refine wp_region_U (n := 13) (fun W => (W.cell? ⟨g10, 0, none⟩ = some (Value.int .i64 y.s) ∧ W.cell? ⟨g10, 1, none⟩ = some (Value.bool y.g) ∧ W.cell? ⟨g10, 2, none⟩ = some (Value.slice y.A y.n y.c) ∧ W.cell? ⟨g10, 3, none⟩ = some (Value.int .i64 y.s') ∧ W.cell? ⟨g10, 4, none⟩ = some (Value.bool y.g') ∧ W.cell? ⟨g10, 5, none⟩ = some (Value.slice y.A' y.n' y.c')) ∧ W.cell? ⟨g8, 0, none⟩ = some (Value.int .i64 z.s) ∧ W.cell? ⟨g8, 1, none⟩ = some (Value.bool z.g) ∧ W.cell? ⟨g8, 2, none⟩ = some (Value.slice z.A z.n z.c)) (by kernel_rfl) ?_
    refine wpU_take (n := 13) (i := 0) (v := ?_) (by decide) (by kernel_rfl) rfl (by kernel_rfl) (by kernel_rfl) (by kernel_rfl) (fun _ _ _ h => h) (by kernel_rfl) (Or.inl ⟨by rfl, ?_⟩) hS0 ?_
    rotate_left
    ·intro w' hSw
     (try dsimp only at hSw)
     go_simp
     (try with_reducible rfl)
    try simp only [Act.put, setIfInBounds_toArray, set_cons_zero, set_cons_succ]
    refine wpU_take (n := 13) (i := 1) (v := ?_) (by decide) (by kernel_rfl) rfl (by kernel_rfl) (by kernel_rfl) (by kernel_rfl) (fun _ _ _ h => h) (by kernel_rfl) (Or.inl ⟨by rfl, ?_⟩) hS0 ?_
    rotate_left
    ·intro w' hSw
     (try dsimp only at hSw)
     go_simp
     (try with_reducible rfl)
    try simp only [Act.put, setIfInBounds_toArray, set_cons_zero, set_cons_succ]
    refine wpU_take (n := 13) (i := 2) (v := ?_) (by decide) (by kernel_rfl) rfl (by kernel_rfl) (by kernel_rfl) (by kernel_rfl) (fun _ _ _ h => h) (by kernel_rfl) (Or.inl ⟨by rfl, ?_⟩) hS0 ?_
    rotate_left
    ·intro w' hSw
     (try dsimp only at hSw)
     go_simp
     (try with_reducible rfl)
    try simp only [Act.put, setIfInBounds_toArray, set_cons_zero, set_cons_succ]
    refine wpU_take (n := 13) (i := 3) (v := ?_) (by decide) (by kernel_rfl) rfl (by kernel_rfl) (by kernel_rfl) (by kernel_rfl) (fun _ _ _ h => h) (by kernel_rfl) (Or.inl ⟨by rfl, ?_⟩) hS0 ?_
    rotate_left
    ·intro w' hSw
     (try dsimp only at hSw)
     go_simp
     (try with_reducible rfl)
    try simp only [Act.put, setIfInBounds_toArray, set_cons_zero, set_cons_succ]
    refine wpU_take (n := 13) (i := 4) (v := ?_) (by decide) (by kernel_rfl) rfl (by kernel_rfl) (by kernel_rfl) (by kernel_rfl) (fun _ _ _ h => h) (by kernel_rfl) (Or.inl ⟨by rfl, ?_⟩) hS0 ?_
    rotate_left
    ·intro w' hSw
     (try dsimp only at hSw)
     go_simp
     (try with_reducible rfl)
    try simp only [Act.put, setIfInBounds_toArray, set_cons_zero, set_cons_succ]
    refine wpU_three (n := 13) (i := 5) (k := 10) (l := 11) (by kernel_rfl) rfl rfl rfl (fun K9 hK9 => ?zA1) (fun K9 hK9 => ?zB1) (fun K9 hK9 => ?zC1)
    case' zA1 =>
     go_simp
     refine (rigcd_calls z.s z.g z.A z.n z.c kk0 y.s' y.g' y.A' y.n' y.c' qd _ (RV.kp tz (Kp.below VD)) (RV.kp tyd (Kp.below VD)) 8000 HK0.out HQD.out (by omega)).mono ?_
     rintro e y1 ⟨⟨s1, b1, A1, n1, c1, rfl, t1⟩, hBy1⟩
     have V1 : Below W5.heap.size W5 y1 := bl_then VD hBy1
     refine hK9.out _ _ (fun _ _ => hSd _ V1) (fun _ => ?_)
     clear hK9 K9
     try simp only [Act.put, setIfInBounds_toArray, set_cons_zero, set_cons_succ]
     refine wpU_three (n := 13) (i := 6) (k := 10) (l := 11) (by kernel_rfl) rfl rfl rfl (fun K9 hK9 => ?zA2) (fun K9 hK9 => ?zB2) (fun K9 hK9 => ?zC2)
     case' zA2 =>
      go_simp
      refine (rover_calls y.s' y.g' y.A' y.n' y.c' qd s1 b1 A1 n1 c1 (Int.gcd kk0 qd : Int) _ (RV.kp tyd (Kp.below V1)) t1 8000 HQD.out HGD.out (by omega) HGN.out).mono ?_
      rintro e y2 ⟨⟨s2, b2, A2, n2, c2, s3, b3, A3, n3, c3, rfl, t2, t3⟩, hBy2⟩
      have V2 : Below W5.heap.size W5 y2 := bl_then V1 hBy2
      replace t1 := RV.below t1 hBy2
      refine hK9.out _ _ (fun _ _ => hSd _ V2) (fun _ => ?_)
      clear hK9 K9
      try simp only [Act.put, setIfInBounds_toArray, set_cons_zero, set_cons_succ]
      refine wpU_take (n := 13) (i := 7) (v := ?_) (by decide) (by kernel_rfl) rfl (by kernel_rfl) (by kernel_rfl) (by kernel_rfl) (fun _ _ _ h => h) (by kernel_rfl) (Or.inl ⟨by rfl, ?_⟩) (hSd _ V2) ?_
      rotate_left
      ·intro w' hSw
       (try dsimp only at hSw)
       go_simp
       (try with_reducible rfl)
      try simp only [Act.put, setIfInBounds_toArray, set_cons_zero, set_cons_succ]
      refine wpU_take (n := 13) (i := 8) (v := ?_) (by decide) (by kernel_rfl) rfl (by kernel_rfl) (by kernel_rfl) (by kernel_rfl) (fun _ _ _ h => h) (by kernel_rfl) (Or.inl ⟨by rfl, ?_⟩) (hSd _ V2) ?_
      rotate_left
      ·intro w' hSw
       (try dsimp only at hSw)
       go_simp
       (try with_reducible rfl)
      try simp only [Act.put, setIfInBounds_toArray, set_cons_zero, set_cons_succ]
      refine wpU_take (n := 13) (i := 9) (v := ?_) (by decide) (by kernel_rfl) rfl (by kernel_rfl) (by kernel_rfl) (by kernel_rfl) (fun _ _ _ h => h) (by kernel_rfl) (Or.inl ⟨by rfl, ?_⟩) (hSd _ V2) ?_
      rotate_left
      ·intro w' hSw
       (try dsimp only at hSw)
       go_simp
       (try with_reducible rfl)
      try simp only [Act.put, setIfInBounds_toArray, set_cons_zero, set_cons_succ]
      refine wpU_two (n := 13) (i := 10) (k := 11) (by kernel_rfl) rfl rfl (fun K9 hK9 => ?zA3) (fun K9 hK9 => ?zB3)
      case' zA3 =>
       go_simp
       have V3 : Below W5.heap.size W5 (y2.alloc (.cells #[.int .i64 0, .bool false, .slice none 0 0] 49)) := bl_alloc V2 _
       replace t1 := RV.al2 t1 (.cells #[.int .i64 0, .bool false, .slice none 0 0] 49)
       replace t2 := RV.al2 t2 (.cells #[.int .i64 0, .bool false, .slice none 0 0] 49)
       replace t3 := RV.al2 t3 (.cells #[.int .i64 0, .bool false, .slice none 0 0] 49)
       have a11 : (y2.alloc (.cells #[.int .i64 0, .bool false, .slice none 0 0] 49)).heap[y2.heap.size]? = some (.cells #[.int .i64 0, .bool false, .slice none 0 0] 49 (0, 0)) := blk_at _ (by simp)
       have lba11 : W5.heap.size ≤ y2.heap.size := by have := V2.size; (try simp at this); omega
       refine hK9.out _ _ (fun _ _ => hSd _ V3) (fun _ => ?_)
       clear hK9 K9
       try simp only [Act.put, setIfInBounds_toArray, set_cons_zero, set_cons_succ]
       refine wpU_one (n := 13) (i := 11) (by kernel_rfl) rfl (fun K9 hK9 => ?_)
       go_simp
       have lta12 : y2.heap.size < y2.heap.size + 1 := by have := blk_lt a11; (try simp at this); omega
       have V4 : Below W5.heap.size W5 ((y2.alloc (.cells #[.int .i64 0, .bool false, .slice none 0 0] 49)).alloc (.cells #[.int .i64 0, .bool false, .slice none 0 0] 49)) := bl_alloc V3 _
       replace t1 := RV.al2 t1 (.cells #[.int .i64 0, .bool false, .slice none 0 0] 49)
       replace t2 := RV.al2 t2 (.cells #[.int .i64 0, .bool false, .slice none 0 0] 49)
       replace t3 := RV.al2 t3 (.cells #[.int .i64 0, .bool false, .slice none 0 0] 49)
       replace a11 := blk_alloc a11 (.cells #[.int .i64 0, .bool false, .slice none 0 0] 49)
       have a12 : ((y2.alloc (.cells #[.int .i64 0, .bool false, .slice none 0 0] 49)).alloc (.cells #[.int .i64 0, .bool false, .slice none 0 0] 49)).heap[y2.heap.size + 1]? = some (.cells #[.int .i64 0, .bool false, .slice none 0 0] 49 (0, 0)) := blk_at _ (by simp)
       have lba12 : W5.heap.size ≤ y2.heap.size + 1 := by have := V3.size; (try simp at this); omega
       refine hK9.out _ _ (fun _ _ => hSd _ V4) (fun _ => ?_)
       clear hK9 K9
       try simp only [Act.put, setIfInBounds_toArray, set_cons_zero, set_cons_succ]
       generalize ((y2.alloc (.cells #[.int .i64 0, .bool false, .slice none 0 0] 49)).alloc (.cells #[.int .i64 0, .bool false, .slice none 0 0] 49)) = WL at *
       have ne1 : y2.heap.size ≠ y2.heap.size + 1 := by omega
       have VV := V4
       generalize y2.heap.size = G1 at *
       generalize G1 + 1 = G2 at *
      case' zB3 =>
       go_simp
       have V3 : Below W5.heap.size W5 (y2.alloc (.cells #[.int .i64 0, .bool false, .slice none 0 0] 49)) := bl_alloc V2 _
       replace t1 := RV.al2 t1 (.cells #[.int .i64 0, .bool false, .slice none 0 0] 49)
       replace t2 := RV.al2 t2 (.cells #[.int .i64 0, .bool false, .slice none 0 0] 49)
       replace t3 := RV.al2 t3 (.cells #[.int .i64 0, .bool false, .slice none 0 0] 49)
       have a12 : (y2.alloc (.cells #[.int .i64 0, .bool false, .slice none 0 0] 49)).heap[y2.heap.size]? = some (.cells #[.int .i64 0, .bool false, .slice none 0 0] 49 (0, 0)) := blk_at _ (by simp)
       have lba12 : W5.heap.size ≤ y2.heap.size := by have := V2.size; (try simp at this); omega
       refine hK9.out _ _ (fun _ _ => hSd _ V3) (fun _ => ?_)
       clear hK9 K9
       try simp only [Act.put, setIfInBounds_toArray, set_cons_zero, set_cons_succ]
       refine wpU_one (n := 13) (i := 10) (by kernel_rfl) rfl (fun K9 hK9 => ?_)
       go_simp
       have lta11 : y2.heap.size < y2.heap.size + 1 := by have := blk_lt a12; (try simp at this); omega
       have V4 : Below W5.heap.size W5 ((y2.alloc (.cells #[.int .i64 0, .bool false, .slice none 0 0] 49)).alloc (.cells #[.int .i64 0, .bool false, .slice none 0 0] 49)) := bl_alloc V3 _
       replace t1 := RV.al2 t1 (.cells #[.int .i64 0, .bool false, .slice none 0 0] 49)
       replace t2 := RV.al2 t2 (.cells #[.int .i64 0, .bool false, .slice none 0 0] 49)
       replace t3 := RV.al2 t3 (.cells #[.int .i64 0, .bool false, .slice none 0 0] 49)
       replace a12 := blk_alloc a12 (.cells #[.int .i64 0, .bool false, .slice none 0 0] 49)
       have a11 : ((y2.alloc (.cells #[.int .i64 0, .bool false, .slice none 0 0] 49)).alloc (.cells #[.int .i64 0, .bool false, .slice none 0 0] 49)).heap[y2.heap.size + 1]? = some (.cells #[.int .i64 0, .bool false, .slice none 0 0] 49 (0, 0)) := blk_at _ (by simp)
       have lba11 : W5.heap.size ≤ y2.heap.size + 1 := by have := V3.size; (try simp at this); omega
       refine hK9.out _ _ (fun _ _ => hSd _ V4) (fun _ => ?_)
       clear hK9 K9
       try simp only [Act.put, setIfInBounds_toArray, set_cons_zero, set_cons_succ]
       generalize ((y2.alloc (.cells #[.int .i64 0, .bool false, .slice none 0 0] 49)).alloc (.cells #[.int .i64 0, .bool false, .slice none 0 0] 49)) = WL at *
       have ne1 : y2.heap.size + 1 ≠ y2.heap.size := by omega
       have VV := V4
       generalize y2.heap.size = G2 at *
       generalize G2 + 1 = G1 at *
     case' zB2 =>
      go_simp
      have V2 : Below W5.heap.size W5 (y1.alloc (.cells #[.int .i64 0, .bool false, .slice none 0 0] 49)) := bl_alloc V1 _
      replace t1 := RV.al2 t1 (.cells #[.int .i64 0, .bool false, .slice none 0 0] 49)
      have a11 : (y1.alloc (.cells #[.int .i64 0, .bool false, .slice none 0 0] 49)).heap[y1.heap.size]? = some (.cells #[.int .i64 0, .bool false, .slice none 0 0] 49 (0, 0)) := blk_at _ (by simp)
      have lba11 : W5.heap.size ≤ y1.heap.size := by have := V1.size; (try simp at this); omega
      refine hK9.out _ _ (fun _ _ => hSd _ V2) (fun _ => ?_)
      clear hK9 K9
      try simp only [Act.put, setIfInBounds_toArray, set_cons_zero, set_cons_succ]
      refine wpU_two (n := 13) (i := 6) (k := 11) (by kernel_rfl) rfl rfl (fun K9 hK9 => ?zA6) (fun K9 hK9 => ?zB6)
      case' zA6 =>
       go_simp
       refine (rover_calls y.s' y.g' y.A' y.n' y.c' qd s1 b1 A1 n1 c1 (Int.gcd kk0 qd : Int) _ (RV.kp tyd (Kp.below V2)) t1 8000 HQD.out HGD.out (by omega) HGN.out).mono ?_
       rintro e y2 ⟨⟨s2, b2, A2, n2, c2, s3, b3, A3, n3, c3, rfl, t2, t3⟩, hBy2⟩
       have V3 : Below W5.heap.size W5 y2 := bl_then V2 hBy2
       replace t1 := RV.below t1 hBy2
       replace a11 := blk_below a11 hBy2
       refine hK9.out _ _ (fun _ _ => hSd _ V3) (fun _ => ?_)
       clear hK9 K9
       try simp only [Act.put, setIfInBounds_toArray, set_cons_zero, set_cons_succ]
       refine wpU_take (n := 13) (i := 7) (v := ?_) (by decide) (by kernel_rfl) rfl (by kernel_rfl) (by kernel_rfl) (by kernel_rfl) (fun _ _ _ h => h) (by kernel_rfl) (Or.inl ⟨by rfl, ?_⟩) (hSd _ V3) ?_
       rotate_left
       ·intro w' hSw
        (try dsimp only at hSw)
        go_simp
        (try with_reducible rfl)
       try simp only [Act.put, setIfInBounds_toArray, set_cons_zero, set_cons_succ]
       refine wpU_take (n := 13) (i := 8) (v := ?_) (by decide) (by kernel_rfl) rfl (by kernel_rfl) (by kernel_rfl) (by kernel_rfl) (fun _ _ _ h => h) (by kernel_rfl) (Or.inl ⟨by rfl, ?_⟩) (hSd _ V3) ?_
       rotate_left
       ·intro w' hSw
        (try dsimp only at hSw)
        go_simp
        (try with_reducible rfl)
       try simp only [Act.put, setIfInBounds_toArray, set_cons_zero, set_cons_succ]
       refine wpU_take (n := 13) (i := 9) (v := ?_) (by decide) (by kernel_rfl) rfl (by kernel_rfl) (by kernel_rfl) (by kernel_rfl) (fun _ _ _ h => h) (by kernel_rfl) (Or.inl ⟨by rfl, ?_⟩) (hSd _ V3) ?_
       rotate_left
       ·intro w' hSw
        (try dsimp only at hSw)
        go_simp
        (try with_reducible rfl)
       try simp only [Act.put, setIfInBounds_toArray, set_cons_zero, set_cons_succ]
       refine wpU_one (n := 13) (i := 11) (by kernel_rfl) rfl (fun K9 hK9 => ?_)
       go_simp
       have lta12 : y1.heap.size < y2.heap.size := by have := blk_lt a11; (try simp at this); omega
       have V4 : Below W5.heap.size W5 (y2.alloc (.cells #[.int .i64 0, .bool false, .slice none 0 0] 49)) := bl_alloc V3 _
       replace t1 := RV.al2 t1 (.cells #[.int .i64 0, .bool false, .slice none 0 0] 49)
       replace a11 := blk_alloc a11 (.cells #[.int .i64 0, .bool false, .slice none 0 0] 49)
       replace t2 := RV.al2 t2 (.cells #[.int .i64 0, .bool false, .slice none 0 0] 49)
       replace t3 := RV.al2 t3 (.cells #[.int .i64 0, .bool false, .slice none 0 0] 49)
       have a12 : (y2.alloc (.cells #[.int .i64 0, .bool false, .slice none 0 0] 49)).heap[y2.heap.size]? = some (.cells #[.int .i64 0, .bool false, .slice none 0 0] 49 (0, 0)) := blk_at _ (by simp)
       have lba12 : W5.heap.size ≤ y2.heap.size := by have := V3.size; (try simp at this); omega
       refine hK9.out _ _ (fun _ _ => hSd _ V4) (fun _ => ?_)
       clear hK9 K9
       try simp only [Act.put, setIfInBounds_toArray, set_cons_zero, set_cons_succ]
       generalize (y2.alloc (.cells #[.int .i64 0, .bool false, .slice none 0 0] 49)) = WL at *
       have ne1 : y1.heap.size ≠ y2.heap.size := by omega
       have VV := V4
       generalize y1.heap.size = G1 at *
       generalize y2.heap.size = G2 at *
      case' zB6 =>
       go_simp
       have lta12 : y1.heap.size < y1.heap.size + 1 := by have := blk_lt a11; (try simp at this); omega
       have V3 : Below W5.heap.size W5 ((y1.alloc (.cells #[.int .i64 0, .bool false, .slice none 0 0] 49)).alloc (.cells #[.int .i64 0, .bool false, .slice none 0 0] 49)) := bl_alloc V2 _
       replace t1 := RV.al2 t1 (.cells #[.int .i64 0, .bool false, .slice none 0 0] 49)
       replace a11 := blk_alloc a11 (.cells #[.int .i64 0, .bool false, .slice none 0 0] 49)
       have a12 : ((y1.alloc (.cells #[.int .i64 0, .bool false, .slice none 0 0] 49)).alloc (.cells #[.int .i64 0, .bool false, .slice none 0 0] 49)).heap[y1.heap.size + 1]? = some (.cells #[.int .i64 0, .bool false, .slice none 0 0] 49 (0, 0)) := blk_at _ (by simp)
       have lba12 : W5.heap.size ≤ y1.heap.size + 1 := by have := V2.size; (try simp at this); omega
       refine hK9.out _ _ (fun _ _ => hSd _ V3) (fun _ => ?_)
       clear hK9 K9
       try simp only [Act.put, setIfInBounds_toArray, set_cons_zero, set_cons_succ]
       refine wpU_one (n := 13) (i := 6) (by kernel_rfl) rfl (fun K9 hK9 => ?_)
       go_simp
       refine (rover_calls y.s' y.g' y.A' y.n' y.c' qd s1 b1 A1 n1 c1 (Int.gcd kk0 qd : Int) _ (RV.kp tyd (Kp.below V3)) t1 8000 HQD.out HGD.out (by omega) HGN.out).mono ?_
       rintro e y2 ⟨⟨s2, b2, A2, n2, c2, s3, b3, A3, n3, c3, rfl, t2, t3⟩, hBy2⟩
       have V4 : Below W5.heap.size W5 y2 := bl_then V3 hBy2
       replace t1 := RV.below t1 hBy2
       replace a11 := blk_below a11 hBy2
       replace a12 := blk_below a12 hBy2
       refine hK9.out _ _ (fun _ _ => hSd _ V4) (fun _ => ?_)
       clear hK9 K9
       try simp only [Act.put, setIfInBounds_toArray, set_cons_zero, set_cons_succ]
       refine wpU_take (n := 13) (i := 7) (v := ?_) (by decide) (by kernel_rfl) rfl (by kernel_rfl) (by kernel_rfl) (by kernel_rfl) (fun _ _ _ h => h) (by kernel_rfl) (Or.inl ⟨by rfl, ?_⟩) (hSd _ V4) ?_
       rotate_left
       ·intro w' hSw
        (try dsimp only at hSw)
        go_simp
        (try with_reducible rfl)
       try simp only [Act.put, setIfInBounds_toArray, set_cons_zero, set_cons_succ]
       refine wpU_take (n := 13) (i := 8) (v := ?_) (by decide) (by kernel_rfl) rfl (by kernel_rfl) (by kernel_rfl) (by kernel_rfl) (fun _ _ _ h => h) (by kernel_rfl) (Or.inl ⟨by rfl, ?_⟩) (hSd _ V4) ?_
       rotate_left
       ·intro w' hSw
        (try dsimp only at hSw)
        go_simp
        (try with_reducible rfl)
       try simp only [Act.put, setIfInBounds_toArray, set_cons_zero, set_cons_succ]
       refine wpU_take (n := 13) (i := 9) (v := ?_) (by decide) (by kernel_rfl) rfl (by kernel_rfl) (by kernel_rfl) (by kernel_rfl) (fun _ _ _ h => h) (by kernel_rfl) (Or.inl ⟨by rfl, ?_⟩) (hSd _ V4) ?_
       rotate_left
       ·intro w' hSw
        (try dsimp only at hSw)
        go_simp
        (try with_reducible rfl)
       try simp only [Act.put, setIfInBounds_toArray, set_cons_zero, set_cons_succ]
       generalize y2 = WL at *
       have ne1 : y1.heap.size ≠ y1.heap.size + 1 := by omega
       have VV := V4
       generalize y1.heap.size = G1 at *
       generalize G1 + 1 = G2 at *
     case' zC2 =>
      go_simp
      have V2 : Below W5.heap.size W5 (y1.alloc (.cells #[.int .i64 0, .bool false, .slice none 0 0] 49)) := bl_alloc V1 _
      replace t1 := RV.al2 t1 (.cells #[.int .i64 0, .bool false, .slice none 0 0] 49)
      have a12 : (y1.alloc (.cells #[.int .i64 0, .bool false, .slice none 0 0] 49)).heap[y1.heap.size]? = some (.cells #[.int .i64 0, .bool false, .slice none 0 0] 49 (0, 0)) := blk_at _ (by simp)
      have lba12 : W5.heap.size ≤ y1.heap.size := by have := V1.size; (try simp at this); omega
      refine hK9.out _ _ (fun _ _ => hSd _ V2) (fun _ => ?_)
      clear hK9 K9
      try simp only [Act.put, setIfInBounds_toArray, set_cons_zero, set_cons_succ]
      refine wpU_two (n := 13) (i := 6) (k := 10) (by kernel_rfl) rfl rfl (fun K9 hK9 => ?zA9) (fun K9 hK9 => ?zB9)
      case' zA9 =>
       go_simp
       refine (rover_calls y.s' y.g' y.A' y.n' y.c' qd s1 b1 A1 n1 c1 (Int.gcd kk0 qd : Int) _ (RV.kp tyd (Kp.below V2)) t1 8000 HQD.out HGD.out (by omega) HGN.out).mono ?_
       rintro e y2 ⟨⟨s2, b2, A2, n2, c2, s3, b3, A3, n3, c3, rfl, t2, t3⟩, hBy2⟩
       have V3 : Below W5.heap.size W5 y2 := bl_then V2 hBy2
       replace t1 := RV.below t1 hBy2
       replace a12 := blk_below a12 hBy2
       refine hK9.out _ _ (fun _ _ => hSd _ V3) (fun _ => ?_)
       clear hK9 K9
       try simp only [Act.put, setIfInBounds_toArray, set_cons_zero, set_cons_succ]
       refine wpU_take (n := 13) (i := 7) (v := ?_) (by decide) (by kernel_rfl) rfl (by kernel_rfl) (by kernel_rfl) (by kernel_rfl) (fun _ _ _ h => h) (by kernel_rfl) (Or.inl ⟨by rfl, ?_⟩) (hSd _ V3) ?_
       rotate_left
       ·intro w' hSw
        (try dsimp only at hSw)
        go_simp
        (try with_reducible rfl)
       try simp only [Act.put, setIfInBounds_toArray, set_cons_zero, set_cons_succ]
       refine wpU_take (n := 13) (i := 8) (v := ?_) (by decide) (by kernel_rfl) rfl (by kernel_rfl) (by kernel_rfl) (by kernel_rfl) (fun _ _ _ h => h) (by kernel_rfl) (Or.inl ⟨by rfl, ?_⟩) (hSd _ V3) ?_
       rotate_left
       ·intro w' hSw
        (try dsimp only at hSw)
        go_simp
        (try with_reducible rfl)
       try simp only [Act.put, setIfInBounds_toArray, set_cons_zero, set_cons_succ]
       refine wpU_take (n := 13) (i := 9) (v := ?_) (by decide) (by kernel_rfl) rfl (by kernel_rfl) (by kernel_rfl) (by kernel_rfl) (fun _ _ _ h => h) (by kernel_rfl) (Or.inl ⟨by rfl, ?_⟩) (hSd _ V3) ?_
       rotate_left
       ·intro w' hSw
        (try dsimp only at hSw)
        go_simp
        (try with_reducible rfl)
       try simp only [Act.put, setIfInBounds_toArray, set_cons_zero, set_cons_succ]
       refine wpU_one (n := 13) (i := 10) (by kernel_rfl) rfl (fun K9 hK9 => ?_)
       go_simp
       have lta11 : y1.heap.size < y2.heap.size := by have := blk_lt a12; (try simp at this); omega
       have V4 : Below W5.heap.size W5 (y2.alloc (.cells #[.int .i64 0, .bool false, .slice none 0 0] 49)) := bl_alloc V3 _
       replace t1 := RV.al2 t1 (.cells #[.int .i64 0, .bool false, .slice none 0 0] 49)
       replace a12 := blk_alloc a12 (.cells #[.int .i64 0, .bool false, .slice none 0 0] 49)
       replace t2 := RV.al2 t2 (.cells #[.int .i64 0, .bool false, .slice none 0 0] 49)
       replace t3 := RV.al2 t3 (.cells #[.int .i64 0, .bool false, .slice none 0 0] 49)
       have a11 : (y2.alloc (.cells #[.int .i64 0, .bool false, .slice none 0 0] 49)).heap[y2.heap.size]? = some (.cells #[.int .i64 0, .bool false, .slice none 0 0] 49 (0, 0)) := blk_at _ (by simp)
       have lba11 : W5.heap.size ≤ y2.heap.size := by have := V3.size; (try simp at this); omega
       refine hK9.out _ _ (fun _ _ => hSd _ V4) (fun _ => ?_)
       clear hK9 K9
       try simp only [Act.put, setIfInBounds_toArray, set_cons_zero, set_cons_succ]
       generalize (y2.alloc (.cells #[.int .i64 0, .bool false, .slice none 0 0] 49)) = WL at *
       have ne1 : y2.heap.size ≠ y1.heap.size := by omega
       have VV := V4
       generalize y2.heap.size = G1 at *
       generalize y1.heap.size = G2 at *
      case' zB9 =>
       go_simp
       have lta11 : y1.heap.size < y1.heap.size + 1 := by have := blk_lt a12; (try simp at this); omega
       have V3 : Below W5.heap.size W5 ((y1.alloc (.cells #[.int .i64 0, .bool false, .slice none 0 0] 49)).alloc (.cells #[.int .i64 0, .bool false, .slice none 0 0] 49)) := bl_alloc V2 _
       replace t1 := RV.al2 t1 (.cells #[.int .i64 0, .bool false, .slice none 0 0] 49)
       replace a12 := blk_alloc a12 (.cells #[.int .i64 0, .bool false, .slice none 0 0] 49)
       have a11 : ((y1.alloc (.cells #[.int .i64 0, .bool false, .slice none 0 0] 49)).alloc (.cells #[.int .i64 0, .bool false, .slice none 0 0] 49)).heap[y1.heap.size + 1]? = some (.cells #[.int .i64 0, .bool false, .slice none 0 0] 49 (0, 0)) := blk_at _ (by simp)
       have lba11 : W5.heap.size ≤ y1.heap.size + 1 := by have := V2.size; (try simp at this); omega
       refine hK9.out _ _ (fun _ _ => hSd _ V3) (fun _ => ?_)
       clear hK9 K9
       try simp only [Act.put, setIfInBounds_toArray, set_cons_zero, set_cons_succ]
       refine wpU_one (n := 13) (i := 6) (by kernel_rfl) rfl (fun K9 hK9 => ?_)
       go_simp
       refine (rover_calls y.s' y.g' y.A' y.n' y.c' qd s1 b1 A1 n1 c1 (Int.gcd kk0 qd : Int) _ (RV.kp tyd (Kp.below V3)) t1 8000 HQD.out HGD.out (by omega) HGN.out).mono ?_
       rintro e y2 ⟨⟨s2, b2, A2, n2, c2, s3, b3, A3, n3, c3, rfl, t2, t3⟩, hBy2⟩
       have V4 : Below W5.heap.size W5 y2 := bl_then V3 hBy2
       replace t1 := RV.below t1 hBy2
       replace a12 := blk_below a12 hBy2
       replace a11 := blk_below a11 hBy2
       refine hK9.out _ _ (fun _ _ => hSd _ V4) (fun _ => ?_)
       clear hK9 K9
       try simp only [Act.put, setIfInBounds_toArray, set_cons_zero, set_cons_succ]
       refine wpU_take (n := 13) (i := 7) (v := ?_) (by decide) (by kernel_rfl) rfl (by kernel_rfl) (by kernel_rfl) (by kernel_rfl) (fun _ _ _ h => h) (by kernel_rfl) (Or.inl ⟨by rfl, ?_⟩) (hSd _ V4) ?_
       rotate_left
       ·intro w' hSw
        (try dsimp only at hSw)
        go_simp
        (try with_reducible rfl)
       try simp only [Act.put, setIfInBounds_toArray, set_cons_zero, set_cons_succ]
       refine wpU_take (n := 13) (i := 8) (v := ?_) (by decide) (by kernel_rfl) rfl (by kernel_rfl) (by kernel_rfl) (by kernel_rfl) (fun _ _ _ h => h) (by kernel_rfl) (Or.inl ⟨by rfl, ?_⟩) (hSd _ V4) ?_
       rotate_left
       ·intro w' hSw
        (try dsimp only at hSw)
        go_simp
        (try with_reducible rfl)
       try simp only [Act.put, setIfInBounds_toArray, set_cons_zero, set_cons_succ]
       refine wpU_take (n := 13) (i := 9) (v := ?_) (by decide) (by kernel_rfl) rfl (by kernel_rfl) (by kernel_rfl) (by kernel_rfl) (fun _ _ _ h => h) (by kernel_rfl) (Or.inl ⟨by rfl, ?_⟩) (hSd _ V4) ?_
       rotate_left
       ·intro w' hSw
        (try dsimp only at hSw)
        go_simp
        (try with_reducible rfl)
       try simp only [Act.put, setIfInBounds_toArray, set_cons_zero, set_cons_succ]
       generalize y2 = WL at *
       have ne1 : y1.heap.size + 1 ≠ y1.heap.size := by omega
       have VV := V4
       generalize y1.heap.size = G2 at *
       generalize G2 + 1 = G1 at *
    case' zB1 =>
     go_simp
     have V1 : Below W5.heap.size W5 (W5.drew.alloc (.cells #[.int .i64 0, .bool false, .slice none 0 0] 49)) := bl_alloc VD _
     have a11 : (W5.drew.alloc (.cells #[.int .i64 0, .bool false, .slice none 0 0] 49)).heap[W5.heap.size]? = some (.cells #[.int .i64 0, .bool false, .slice none 0 0] 49 (0, 0)) := blk_at _ (by simp)
     have lba11 : W5.heap.size ≤ W5.heap.size := by have := VD.size; (try simp at this); omega
     refine hK9.out _ _ (fun _ _ => hSd _ V1) (fun _ => ?_)
     clear hK9 K9
     try simp only [Act.put, setIfInBounds_toArray, set_cons_zero, set_cons_succ]
     refine wpU_two (n := 13) (i := 5) (k := 11) (by kernel_rfl) rfl rfl (fun K9 hK9 => ?zA12) (fun K9 hK9 => ?zB12)
     case' zA12 =>
      go_simp
      refine (rigcd_calls z.s z.g z.A z.n z.c kk0 y.s' y.g' y.A' y.n' y.c' qd _ (RV.kp tz (Kp.below V1)) (RV.kp tyd (Kp.below V1)) 8000 HK0.out HQD.out (by omega)).mono ?_
      rintro e y1 ⟨⟨s1, b1, A1, n1, c1, rfl, t1⟩, hBy1⟩
      have V2 : Below W5.heap.size W5 y1 := bl_then V1 hBy1
      replace a11 := blk_below a11 hBy1
      refine hK9.out _ _ (fun _ _ => hSd _ V2) (fun _ => ?_)
      clear hK9 K9
      try simp only [Act.put, setIfInBounds_toArray, set_cons_zero, set_cons_succ]
      refine wpU_two (n := 13) (i := 6) (k := 11) (by kernel_rfl) rfl rfl (fun K9 hK9 => ?zA13) (fun K9 hK9 => ?zB13)
      case' zA13 =>
       go_simp
       refine (rover_calls y.s' y.g' y.A' y.n' y.c' qd s1 b1 A1 n1 c1 (Int.gcd kk0 qd : Int) _ (RV.kp tyd (Kp.below V2)) t1 8000 HQD.out HGD.out (by omega) HGN.out).mono ?_
       rintro e y2 ⟨⟨s2, b2, A2, n2, c2, s3, b3, A3, n3, c3, rfl, t2, t3⟩, hBy2⟩
       have V3 : Below W5.heap.size W5 y2 := bl_then V2 hBy2
       replace a11 := blk_below a11 hBy2
       replace t1 := RV.below t1 hBy2
       refine hK9.out _ _ (fun _ _ => hSd _ V3) (fun _ => ?_)
       clear hK9 K9
       try simp only [Act.put, setIfInBounds_toArray, set_cons_zero, set_cons_succ]
       refine wpU_take (n := 13) (i := 7) (v := ?_) (by decide) (by kernel_rfl) rfl (by kernel_rfl) (by kernel_rfl) (by kernel_rfl) (fun _ _ _ h => h) (by kernel_rfl) (Or.inl ⟨by rfl, ?_⟩) (hSd _ V3) ?_
       rotate_left
       ·intro w' hSw
        (try dsimp only at hSw)
        go_simp
        (try with_reducible rfl)
       try simp only [Act.put, setIfInBounds_toArray, set_cons_zero, set_cons_succ]
       refine wpU_take (n := 13) (i := 8) (v := ?_) (by decide) (by kernel_rfl) rfl (by kernel_rfl) (by kernel_rfl) (by kernel_rfl) (fun _ _ _ h => h) (by kernel_rfl) (Or.inl ⟨by rfl, ?_⟩) (hSd _ V3) ?_
       rotate_left
       ·intro w' hSw
        (try dsimp only at hSw)
        go_simp
        (try with_reducible rfl)
       try simp only [Act.put, setIfInBounds_toArray, set_cons_zero, set_cons_succ]
       refine wpU_take (n := 13) (i := 9) (v := ?_) (by decide) (by kernel_rfl) rfl (by kernel_rfl) (by kernel_rfl) (by kernel_rfl) (fun _ _ _ h => h) (by kernel_rfl) (Or.inl ⟨by rfl, ?_⟩) (hSd _ V3) ?_
       rotate_left
       ·intro w' hSw
        (try dsimp only at hSw)
        go_simp
        (try with_reducible rfl)
       try simp only [Act.put, setIfInBounds_toArray, set_cons_zero, set_cons_succ]
       refine wpU_one (n := 13) (i := 11) (by kernel_rfl) rfl (fun K9 hK9 => ?_)
       go_simp
       have lta12 : W5.heap.size < y2.heap.size := by have := blk_lt a11; (try simp at this); omega
       have V4 : Below W5.heap.size W5 (y2.alloc (.cells #[.int .i64 0, .bool false, .slice none 0 0] 49)) := bl_alloc V3 _
       replace a11 := blk_alloc a11 (.cells #[.int .i64 0, .bool false, .slice none 0 0] 49)
       replace t1 := RV.al2 t1 (.cells #[.int .i64 0, .bool false, .slice none 0 0] 49)
       replace t2 := RV.al2 t2 (.cells #[.int .i64 0, .bool false, .slice none 0 0] 49)
       replace t3 := RV.al2 t3 (.cells #[.int .i64 0, .bool false, .slice none 0 0] 49)
       have a12 : (y2.alloc (.cells #[.int .i64 0, .bool false, .slice none 0 0] 49)).heap[y2.heap.size]? = some (.cells #[.int .i64 0, .bool false, .slice none 0 0] 49 (0, 0)) := blk_at _ (by simp)
       have lba12 : W5.heap.size ≤ y2.heap.size := by have := V3.size; (try simp at this); omega
       refine hK9.out _ _ (fun _ _ => hSd _ V4) (fun _ => ?_)
       clear hK9 K9
       try simp only [Act.put, setIfInBounds_toArray, set_cons_zero, set_cons_succ]
       generalize (y2.alloc (.cells #[.int .i64 0, .bool false, .slice none 0 0] 49)) = WL at *
       have ne1 : W5.heap.size ≠ y2.heap.size := by omega
       have VV := V4
       generalize W5.heap.size = G1 at *
       generalize y2.heap.size = G2 at *
      case' zB13 =>
       go_simp
       have lta12 : W5.heap.size < y1.heap.size := by have := blk_lt a11; (try simp at this); omega
       have V3 : Below W5.heap.size W5 (y1.alloc (.cells #[.int .i64 0, .bool false, .slice none 0 0] 49)) := bl_alloc V2 _
       replace a11 := blk_alloc a11 (.cells #[.int .i64 0, .bool false, .slice none 0 0] 49)
       replace t1 := RV.al2 t1 (.cells #[.int .i64 0, .bool false, .slice none 0 0] 49)
       have a12 : (y1.alloc (.cells #[.int .i64 0, .bool false, .slice none 0 0] 49)).heap[y1.heap.size]? = some (.cells #[.int .i64 0, .bool false, .slice none 0 0] 49 (0, 0)) := blk_at _ (by simp)
       have lba12 : W5.heap.size ≤ y1.heap.size := by have := V2.size; (try simp at this); omega
       refine hK9.out _ _ (fun _ _ => hSd _ V3) (fun _ => ?_)
       clear hK9 K9
       try simp only [Act.put, setIfInBounds_toArray, set_cons_zero, set_cons_succ]
       refine wpU_one (n := 13) (i := 6) (by kernel_rfl) rfl (fun K9 hK9 => ?_)
       go_simp
       refine (rover_calls y.s' y.g' y.A' y.n' y.c' qd s1 b1 A1 n1 c1 (Int.gcd kk0 qd : Int) _ (RV.kp tyd (Kp.below V3)) t1 8000 HQD.out HGD.out (by omega) HGN.out).mono ?_
       rintro e y2 ⟨⟨s2, b2, A2, n2, c2, s3, b3, A3, n3, c3, rfl, t2, t3⟩, hBy2⟩
       have V4 : Below W5.heap.size W5 y2 := bl_then V3 hBy2
       replace a11 := blk_below a11 hBy2
       replace t1 := RV.below t1 hBy2
       replace a12 := blk_below a12 hBy2
       refine hK9.out _ _ (fun _ _ => hSd _ V4) (fun _ => ?_)
       clear hK9 K9
       try simp only [Act.put, setIfInBounds_toArray, set_cons_zero, set_cons_succ]
       refine wpU_take (n := 13) (i := 7) (v := ?_) (by decide) (by kernel_rfl) rfl (by kernel_rfl) (by kernel_rfl) (by kernel_rfl) (fun _ _ _ h => h) (by kernel_rfl) (Or.inl ⟨by rfl, ?_⟩) (hSd _ V4) ?_
       rotate_left
       ·intro w' hSw
        (try dsimp only at hSw)
        go_simp
        (try with_reducible rfl)
       try simp only [Act.put, setIfInBounds_toArray, set_cons_zero, set_cons_succ]
       refine wpU_take (n := 13) (i := 8) (v := ?_) (by decide) (by kernel_rfl) rfl (by kernel_rfl) (by kernel_rfl) (by kernel_rfl) (fun _ _ _ h => h) (by kernel_rfl) (Or.inl ⟨by rfl, ?_⟩) (hSd _ V4) ?_
       rotate_left
       ·intro w' hSw
        (try dsimp only at hSw)
        go_simp
        (try with_reducible rfl)
       try simp only [Act.put, setIfInBounds_toArray, set_cons_zero, set_cons_succ]
       refine wpU_take (n := 13) (i := 9) (v := ?_) (by decide) (by kernel_rfl) rfl (by kernel_rfl) (by kernel_rfl) (by kernel_rfl) (fun _ _ _ h => h) (by kernel_rfl) (Or.inl ⟨by rfl, ?_⟩) (hSd _ V4) ?_
       rotate_left
       ·intro w' hSw
        (try dsimp only at hSw)
        go_simp
        (try with_reducible rfl)
       try simp only [Act.put, setIfInBounds_toArray, set_cons_zero, set_cons_succ]
       generalize y2 = WL at *
       have ne1 : W5.heap.size ≠ y1.heap.size := by omega
       have VV := V4
       generalize W5.heap.size = G1 at *
       generalize y1.heap.size = G2 at *
     case' zB12 =>
      go_simp
      have lta12 : W5.heap.size < W5.heap.size + 1 := by have := blk_lt a11; (try simp at this); omega
      have V2 : Below W5.heap.size W5 ((W5.drew.alloc (.cells #[.int .i64 0, .bool false, .slice none 0 0] 49)).alloc (.cells #[.int .i64 0, .bool false, .slice none 0 0] 49)) := bl_alloc V1 _
      replace a11 := blk_alloc a11 (.cells #[.int .i64 0, .bool false, .slice none 0 0] 49)
      have a12 : ((W5.drew.alloc (.cells #[.int .i64 0, .bool false, .slice none 0 0] 49)).alloc (.cells #[.int .i64 0, .bool false, .slice none 0 0] 49)).heap[W5.heap.size + 1]? = some (.cells #[.int .i64 0, .bool false, .slice none 0 0] 49 (0, 0)) := blk_at _ (by simp)
      have lba12 : W5.heap.size ≤ W5.heap.size + 1 := by have := V1.size; (try simp at this); omega
      refine hK9.out _ _ (fun _ _ => hSd _ V2) (fun _ => ?_)
      clear hK9 K9
      try simp only [Act.put, setIfInBounds_toArray, set_cons_zero, set_cons_succ]
      refine wpU_one (n := 13) (i := 5) (by kernel_rfl) rfl (fun K9 hK9 => ?_)
      go_simp
      refine (rigcd_calls z.s z.g z.A z.n z.c kk0 y.s' y.g' y.A' y.n' y.c' qd _ (RV.kp tz (Kp.below V2)) (RV.kp tyd (Kp.below V2)) 8000 HK0.out HQD.out (by omega)).mono ?_
      rintro e y1 ⟨⟨s1, b1, A1, n1, c1, rfl, t1⟩, hBy1⟩
      have V3 : Below W5.heap.size W5 y1 := bl_then V2 hBy1
      replace a11 := blk_below a11 hBy1
      replace a12 := blk_below a12 hBy1
      refine hK9.out _ _ (fun _ _ => hSd _ V3) (fun _ => ?_)
      clear hK9 K9
      try simp only [Act.put, setIfInBounds_toArray, set_cons_zero, set_cons_succ]
      refine wpU_one (n := 13) (i := 6) (by kernel_rfl) rfl (fun K9 hK9 => ?_)
      go_simp
      refine (rover_calls y.s' y.g' y.A' y.n' y.c' qd s1 b1 A1 n1 c1 (Int.gcd kk0 qd : Int) _ (RV.kp tyd (Kp.below V3)) t1 8000 HQD.out HGD.out (by omega) HGN.out).mono ?_
      rintro e y2 ⟨⟨s2, b2, A2, n2, c2, s3, b3, A3, n3, c3, rfl, t2, t3⟩, hBy2⟩
      have V4 : Below W5.heap.size W5 y2 := bl_then V3 hBy2
      replace a11 := blk_below a11 hBy2
      replace a12 := blk_below a12 hBy2
      replace t1 := RV.below t1 hBy2
      refine hK9.out _ _ (fun _ _ => hSd _ V4) (fun _ => ?_)
      clear hK9 K9
      try simp only [Act.put, setIfInBounds_toArray, set_cons_zero, set_cons_succ]
      refine wpU_take (n := 13) (i := 7) (v := ?_) (by decide) (by kernel_rfl) rfl (by kernel_rfl) (by kernel_rfl) (by kernel_rfl) (fun _ _ _ h => h) (by kernel_rfl) (Or.inl ⟨by rfl, ?_⟩) (hSd _ V4) ?_
      rotate_left
      ·intro w' hSw
       (try dsimp only at hSw)
       go_simp
       (try with_reducible rfl)
      try simp only [Act.put, setIfInBounds_toArray, set_cons_zero, set_cons_succ]
      refine wpU_take (n := 13) (i := 8) (v := ?_) (by decide) (by kernel_rfl) rfl (by kernel_rfl) (by kernel_rfl) (by kernel_rfl) (fun _ _ _ h => h) (by kernel_rfl) (Or.inl ⟨by rfl, ?_⟩) (hSd _ V4) ?_
      rotate_left
      ·intro w' hSw
       (try dsimp only at hSw)
       go_simp
       (try with_reducible rfl)
      try simp only [Act.put, setIfInBounds_toArray, set_cons_zero, set_cons_succ]
      refine wpU_take (n := 13) (i := 9) (v := ?_) (by decide) (by kernel_rfl) rfl (by kernel_rfl) (by kernel_rfl) (by kernel_rfl) (fun _ _ _ h => h) (by kernel_rfl) (Or.inl ⟨by rfl, ?_⟩) (hSd _ V4) ?_
      rotate_left
      ·intro w' hSw
       (try dsimp only at hSw)
       go_simp
       (try with_reducible rfl)
      try simp only [Act.put, setIfInBounds_toArray, set_cons_zero, set_cons_succ]
      generalize y2 = WL at *
      have ne1 : W5.heap.size ≠ W5.heap.size + 1 := by omega
      have VV := V4
      generalize W5.heap.size = G1 at *
      generalize G1 + 1 = G2 at *
    case' zC1 =>
     go_simp
     have V1 : Below W5.heap.size W5 (W5.drew.alloc (.cells #[.int .i64 0, .bool false, .slice none 0 0] 49)) := bl_alloc VD _
     have a12 : (W5.drew.alloc (.cells #[.int .i64 0, .bool false, .slice none 0 0] 49)).heap[W5.heap.size]? = some (.cells #[.int .i64 0, .bool false, .slice none 0 0] 49 (0, 0)) := blk_at _ (by simp)
     have lba12 : W5.heap.size ≤ W5.heap.size := by have := VD.size; (try simp at this); omega
     refine hK9.out _ _ (fun _ _ => hSd _ V1) (fun _ => ?_)
     clear hK9 K9
     try simp only [Act.put, setIfInBounds_toArray, set_cons_zero, set_cons_succ]
     refine wpU_two (n := 13) (i := 5) (k := 10) (by kernel_rfl) rfl rfl (fun K9 hK9 => ?zA18) (fun K9 hK9 => ?zB18)
     case' zA18 =>
      go_simp
      refine (rigcd_calls z.s z.g z.A z.n z.c kk0 y.s' y.g' y.A' y.n' y.c' qd _ (RV.kp tz (Kp.below V1)) (RV.kp tyd (Kp.below V1)) 8000 HK0.out HQD.out (by omega)).mono ?_
      rintro e y1 ⟨⟨s1, b1, A1, n1, c1, rfl, t1⟩, hBy1⟩
      have V2 : Below W5.heap.size W5 y1 := bl_then V1 hBy1
      replace a12 := blk_below a12 hBy1
      refine hK9.out _ _ (fun _ _ => hSd _ V2) (fun _ => ?_)
      clear hK9 K9
      try simp only [Act.put, setIfInBounds_toArray, set_cons_zero, set_cons_succ]
      refine wpU_two (n := 13) (i := 6) (k := 10) (by kernel_rfl) rfl rfl (fun K9 hK9 => ?zA19) (fun K9 hK9 => ?zB19)
      case' zA19 =>
       go_simp
       refine (rover_calls y.s' y.g' y.A' y.n' y.c' qd s1 b1 A1 n1 c1 (Int.gcd kk0 qd : Int) _ (RV.kp tyd (Kp.below V2)) t1 8000 HQD.out HGD.out (by omega) HGN.out).mono ?_
       rintro e y2 ⟨⟨s2, b2, A2, n2, c2, s3, b3, A3, n3, c3, rfl, t2, t3⟩, hBy2⟩
       have V3 : Below W5.heap.size W5 y2 := bl_then V2 hBy2
       replace a12 := blk_below a12 hBy2
       replace t1 := RV.below t1 hBy2
       refine hK9.out _ _ (fun _ _ => hSd _ V3) (fun _ => ?_)
       clear hK9 K9
       try simp only [Act.put, setIfInBounds_toArray, set_cons_zero, set_cons_succ]
       refine wpU_take (n := 13) (i := 7) (v := ?_) (by decide) (by kernel_rfl) rfl (by kernel_rfl) (by kernel_rfl) (by kernel_rfl) (fun _ _ _ h => h) (by kernel_rfl) (Or.inl ⟨by rfl, ?_⟩) (hSd _ V3) ?_
       rotate_left
       ·intro w' hSw
        (try dsimp only at hSw)
        go_simp
        (try with_reducible rfl)
       try simp only [Act.put, setIfInBounds_toArray, set_cons_zero, set_cons_succ]
       refine wpU_take (n := 13) (i := 8) (v := ?_) (by decide) (by kernel_rfl) rfl (by kernel_rfl) (by kernel_rfl) (by kernel_rfl) (fun _ _ _ h => h) (by kernel_rfl) (Or.inl ⟨by rfl, ?_⟩) (hSd _ V3) ?_
       rotate_left
       ·intro w' hSw
        (try dsimp only at hSw)
        go_simp
        (try with_reducible rfl)
       try simp only [Act.put, setIfInBounds_toArray, set_cons_zero, set_cons_succ]
       refine wpU_take (n := 13) (i := 9) (v := ?_) (by decide) (by kernel_rfl) rfl (by kernel_rfl) (by kernel_rfl) (by kernel_rfl) (fun _ _ _ h => h) (by kernel_rfl) (Or.inl ⟨by rfl, ?_⟩) (hSd _ V3) ?_
       rotate_left
       ·intro w' hSw
        (try dsimp only at hSw)
        go_simp
        (try with_reducible rfl)
       try simp only [Act.put, setIfInBounds_toArray, set_cons_zero, set_cons_succ]
       refine wpU_one (n := 13) (i := 10) (by kernel_rfl) rfl (fun K9 hK9 => ?_)
       go_simp
       have lta11 : W5.heap.size < y2.heap.size := by have := blk_lt a12; (try simp at this); omega
       have V4 : Below W5.heap.size W5 (y2.alloc (.cells #[.int .i64 0, .bool false, .slice none 0 0] 49)) := bl_alloc V3 _
       replace a12 := blk_alloc a12 (.cells #[.int .i64 0, .bool false, .slice none 0 0] 49)
       replace t1 := RV.al2 t1 (.cells #[.int .i64 0, .bool false, .slice none 0 0] 49)
       replace t2 := RV.al2 t2 (.cells #[.int .i64 0, .bool false, .slice none 0 0] 49)
       replace t3 := RV.al2 t3 (.cells #[.int .i64 0, .bool false, .slice none 0 0] 49)
       have a11 : (y2.alloc (.cells #[.int .i64 0, .bool false, .slice none 0 0] 49)).heap[y2.heap.size]? = some (.cells #[.int .i64 0, .bool false, .slice none 0 0] 49 (0, 0)) := blk_at _ (by simp)
       have lba11 : W5.heap.size ≤ y2.heap.size := by have := V3.size; (try simp at this); omega
       refine hK9.out _ _ (fun _ _ => hSd _ V4) (fun _ => ?_)
       clear hK9 K9
       try simp only [Act.put, setIfInBounds_toArray, set_cons_zero, set_cons_succ]
       generalize (y2.alloc (.cells #[.int .i64 0, .bool false, .slice none 0 0] 49)) = WL at *
       have ne1 : y2.heap.size ≠ W5.heap.size := by omega
       have VV := V4
       generalize y2.heap.size = G1 at *
       generalize W5.heap.size = G2 at *
      case' zB19 =>
       go_simp
       have lta11 : W5.heap.size < y1.heap.size := by have := blk_lt a12; (try simp at this); omega
       have V3 : Below W5.heap.size W5 (y1.alloc (.cells #[.int .i64 0, .bool false, .slice none 0 0] 49)) := bl_alloc V2 _
       replace a12 := blk_alloc a12 (.cells #[.int .i64 0, .bool false, .slice none 0 0] 49)
       replace t1 := RV.al2 t1 (.cells #[.int .i64 0, .bool false, .slice none 0 0] 49)
       have a11 : (y1.alloc (.cells #[.int .i64 0, .bool false, .slice none 0 0] 49)).heap[y1.heap.size]? = some (.cells #[.int .i64 0, .bool false, .slice none 0 0] 49 (0, 0)) := blk_at _ (by simp)
       have lba11 : W5.heap.size ≤ y1.heap.size := by have := V2.size; (try simp at this); omega
       refine hK9.out _ _ (fun _ _ => hSd _ V3) (fun _ => ?_)
       clear hK9 K9
       try simp only [Act.put, setIfInBounds_toArray, set_cons_zero, set_cons_succ]
       refine wpU_one (n := 13) (i := 6) (by kernel_rfl) rfl (fun K9 hK9 => ?_)
       go_simp
       refine (rover_calls y.s' y.g' y.A' y.n' y.c' qd s1 b1 A1 n1 c1 (Int.gcd kk0 qd : Int) _ (RV.kp tyd (Kp.below V3)) t1 8000 HQD.out HGD.out (by omega) HGN.out).mono ?_
       rintro e y2 ⟨⟨s2, b2, A2, n2, c2, s3, b3, A3, n3, c3, rfl, t2, t3⟩, hBy2⟩
       have V4 : Below W5.heap.size W5 y2 := bl_then V3 hBy2
       replace a12 := blk_below a12 hBy2
       replace t1 := RV.below t1 hBy2
       replace a11 := blk_below a11 hBy2
       refine hK9.out _ _ (fun _ _ => hSd _ V4) (fun _ => ?_)
       clear hK9 K9
       try simp only [Act.put, setIfInBounds_toArray, set_cons_zero, set_cons_succ]
       refine wpU_take (n := 13) (i := 7) (v := ?_) (by decide) (by kernel_rfl) rfl (by kernel_rfl) (by kernel_rfl) (by kernel_rfl) (fun _ _ _ h => h) (by kernel_rfl) (Or.inl ⟨by rfl, ?_⟩) (hSd _ V4) ?_
       rotate_left
       ·intro w' hSw
        (try dsimp only at hSw)
        go_simp
        (try with_reducible rfl)
       try simp only [Act.put, setIfInBounds_toArray, set_cons_zero, set_cons_succ]
       refine wpU_take (n := 13) (i := 8) (v := ?_) (by decide) (by kernel_rfl) rfl (by kernel_rfl) (by kernel_rfl) (by kernel_rfl) (fun _ _ _ h => h) (by kernel_rfl) (Or.inl ⟨by rfl, ?_⟩) (hSd _ V4) ?_
       rotate_left
       ·intro w' hSw
        (try dsimp only at hSw)
        go_simp
        (try with_reducible rfl)
       try simp only [Act.put, setIfInBounds_toArray, set_cons_zero, set_cons_succ]
       refine wpU_take (n := 13) (i := 9) (v := ?_) (by decide) (by kernel_rfl) rfl (by kernel_rfl) (by kernel_rfl) (by kernel_rfl) (fun _ _ _ h => h) (by kernel_rfl) (Or.inl ⟨by rfl, ?_⟩) (hSd _ V4) ?_
       rotate_left
       ·intro w' hSw
        (try dsimp only at hSw)
        go_simp
        (try with_reducible rfl)
       try simp only [Act.put, setIfInBounds_toArray, set_cons_zero, set_cons_succ]
       generalize y2 = WL at *
       have ne1 : y1.heap.size ≠ W5.heap.size := by omega
       have VV := V4
       generalize y1.heap.size = G1 at *
       generalize W5.heap.size = G2 at *
     case' zB18 =>
      go_simp
      have lta11 : W5.heap.size < W5.heap.size + 1 := by have := blk_lt a12; (try simp at this); omega
      have V2 : Below W5.heap.size W5 ((W5.drew.alloc (.cells #[.int .i64 0, .bool false, .slice none 0 0] 49)).alloc (.cells #[.int .i64 0, .bool false, .slice none 0 0] 49)) := bl_alloc V1 _
      replace a12 := blk_alloc a12 (.cells #[.int .i64 0, .bool false, .slice none 0 0] 49)
      have a11 : ((W5.drew.alloc (.cells #[.int .i64 0, .bool false, .slice none 0 0] 49)).alloc (.cells #[.int .i64 0, .bool false, .slice none 0 0] 49)).heap[W5.heap.size + 1]? = some (.cells #[.int .i64 0, .bool false, .slice none 0 0] 49 (0, 0)) := blk_at _ (by simp)
      have lba11 : W5.heap.size ≤ W5.heap.size + 1 := by have := V1.size; (try simp at this); omega
      refine hK9.out _ _ (fun _ _ => hSd _ V2) (fun _ => ?_)
      clear hK9 K9
      try simp only [Act.put, setIfInBounds_toArray, set_cons_zero, set_cons_succ]
      refine wpU_one (n := 13) (i := 5) (by kernel_rfl) rfl (fun K9 hK9 => ?_)
      go_simp
      refine (rigcd_calls z.s z.g z.A z.n z.c kk0 y.s' y.g' y.A' y.n' y.c' qd _ (RV.kp tz (Kp.below V2)) (RV.kp tyd (Kp.below V2)) 8000 HK0.out HQD.out (by omega)).mono ?_
      rintro e y1 ⟨⟨s1, b1, A1, n1, c1, rfl, t1⟩, hBy1⟩
      have V3 : Below W5.heap.size W5 y1 := bl_then V2 hBy1
      replace a12 := blk_below a12 hBy1
      replace a11 := blk_below a11 hBy1
      refine hK9.out _ _ (fun _ _ => hSd _ V3) (fun _ => ?_)
      clear hK9 K9
      try simp only [Act.put, setIfInBounds_toArray, set_cons_zero, set_cons_succ]
      refine wpU_one (n := 13) (i := 6) (by kernel_rfl) rfl (fun K9 hK9 => ?_)
      go_simp
      refine (rover_calls y.s' y.g' y.A' y.n' y.c' qd s1 b1 A1 n1 c1 (Int.gcd kk0 qd : Int) _ (RV.kp tyd (Kp.below V3)) t1 8000 HQD.out HGD.out (by omega) HGN.out).mono ?_
      rintro e y2 ⟨⟨s2, b2, A2, n2, c2, s3, b3, A3, n3, c3, rfl, t2, t3⟩, hBy2⟩
      have V4 : Below W5.heap.size W5 y2 := bl_then V3 hBy2
      replace a12 := blk_below a12 hBy2
      replace a11 := blk_below a11 hBy2
      replace t1 := RV.below t1 hBy2
      refine hK9.out _ _ (fun _ _ => hSd _ V4) (fun _ => ?_)
      clear hK9 K9
      try simp only [Act.put, setIfInBounds_toArray, set_cons_zero, set_cons_succ]
      refine wpU_take (n := 13) (i := 7) (v := ?_) (by decide) (by kernel_rfl) rfl (by kernel_rfl) (by kernel_rfl) (by kernel_rfl) (fun _ _ _ h => h) (by kernel_rfl) (Or.inl ⟨by rfl, ?_⟩) (hSd _ V4) ?_
      rotate_left
      ·intro w' hSw
       (try dsimp only at hSw)
       go_simp
       (try with_reducible rfl)
      try simp only [Act.put, setIfInBounds_toArray, set_cons_zero, set_cons_succ]
      refine wpU_take (n := 13) (i := 8) (v := ?_) (by decide) (by kernel_rfl) rfl (by kernel_rfl) (by kernel_rfl) (by kernel_rfl) (fun _ _ _ h => h) (by kernel_rfl) (Or.inl ⟨by rfl, ?_⟩) (hSd _ V4) ?_
      rotate_left
      ·intro w' hSw
       (try dsimp only at hSw)
       go_simp
       (try with_reducible rfl)
      try simp only [Act.put, setIfInBounds_toArray, set_cons_zero, set_cons_succ]
      refine wpU_take (n := 13) (i := 9) (v := ?_) (by decide) (by kernel_rfl) rfl (by kernel_rfl) (by kernel_rfl) (by kernel_rfl) (fun _ _ _ h => h) (by kernel_rfl) (Or.inl ⟨by rfl, ?_⟩) (hSd _ V4) ?_
      rotate_left
      ·intro w' hSw
       (try dsimp only at hSw)
       go_simp
       (try with_reducible rfl)
      try simp only [Act.put, setIfInBounds_toArray, set_cons_zero, set_cons_succ]
      generalize y2 = WL at *
      have ne1 : W5.heap.size + 1 ≠ W5.heap.size := by omega
      have VV := V4
      generalize W5.heap.size = G2 at *
      generalize G2 + 1 = G1 at *
    all_goals
     have ne2 := ne1.symm
     obtain ⟨⟨k1, k2, k3⟩, k4, k5, k6⟩ := bx3 a11
     have E1 := blk_set3 a11 (.int .i64 s2) (.bool b2) (.slice A2 n2 c2)
     have E2 := blk_far3 a12 ne2 (.int .i64 s2) (.bool b2) (.slice A2 n2 c2)
     have VA := (((VV.setCell (p := ⟨G1, 0, none⟩) lba11 (.int .i64 s2)).setCell (p := ⟨G1, 1, none⟩) lba11 (.bool b2)).setCell (p := ⟨G1, 2, none⟩) lba11 (.slice A2 n2 c2))
     have VB := (((VA.setCell (p := ⟨G2, 0, none⟩) lba12 (.int .i64 s3)).setCell (p := ⟨G2, 1, none⟩) lba12 (.bool b3)).setCell (p := ⟨G2, 2, none⟩) lba12 (.slice A3 n3 c3))
     have E3 := blk_far3 E1 ne1 (.int .i64 s3) (.bool b3) (.slice A3 n3 c3)
     have tZ := RV.kp (RV.kp t2 ((((Kp.refl 3 WL).set (p := ⟨G1, 0, none⟩) a11 (by decide) (.int .i64 s2)).set (p := ⟨G1, 1, none⟩) (blk_set a11 0 _) (by decide) (.bool b2)).set (p := ⟨G1, 2, none⟩) (blk_set (blk_set a11 0 _) 1 _) (by decide) (.slice A2 n2 c2))) ((((Kp.refl 3 (((WL.setCell ⟨G1, 0, none⟩ (.int .i64 s2)).setCell ⟨G1, 1, none⟩ (.bool b2)).setCell ⟨G1, 2, none⟩ (.slice A2 n2 c2))).set (p := ⟨G2, 0, none⟩) E2 (by decide) (.int .i64 s3)).set (p := ⟨G2, 1, none⟩) (blk_set E2 0 _) (by decide) (.bool b3)).set (p := ⟨G2, 2, none⟩) (blk_set (blk_set E2 0 _) 1 _) (by decide) (.slice A3 n3 c3))
     refine wpU_one (n := 13) (i := 12) (by kernel_rfl) rfl (fun K9 hK9 => ?_)
     go_simp
     obtain ⟨⟨l1, l2, l3⟩, l4, l5, l6⟩ := bx3 E2
     refine hK9.out _ _ (fun _ _ => hSd _ VA) (fun _ => ?_)
     clear hK9 K9
     try simp only [Act.put, setIfInBounds_toArray, set_cons_zero, set_cons_succ]
     refine wpU_one (n := 13) (i := 13) (by kernel_rfl) rfl (fun K9 hK9 => ?_)
     go_simp
     refine hK9.out _ _ (fun _ h => absurd rfl h) (fun _ => ?_)
     clear hK9 K9
     try simp only [Act.put, setIfInBounds_toArray, set_cons_zero, set_cons_succ]
     refine wpU_done (by kernel_rfl) ?_ _
     go_wp2
     go_meet
     case rel => exact ⟨_, ⟨s2, b2, A2, n2, c2⟩, rfl, E3, tZ, lba11, VB⟩
   case rest =>
    obtain ⟨g11, u, rfl, a11, tu, lb11, HBc⟩ := hcut
    replace a8 := blk_below a8 HBc
    replace ar := blk_below ar HBc
    replace ai := blk_below ai HBc
    replace tz := RV.below tz HBc
    replace B0 := bl_then B0 HBc
    have HQT : Hid (Sz 8000 (qd.tdiv (Int.gcd kk0 qd : Int))) := Lib.hid (HQD.out.le (tdiv_abs _ _))
    clear HBc a10 ty tyd
    obtain ⟨⟨f1, f2, f3⟩, f4⟩ := bx3 a8
    obtain ⟨⟨k1, k2, k3⟩, k4⟩ := bx3 a11
    go_wp2_with fail
    refine (rtimes_calls z.s z.g z.A z.n z.c kk0 u.s u.g u.A u.n u.c (qd.tdiv (Int.gcd kk0 qd : Int)) _ tz tu 8000 HK0.out HQT.out (by omega)).mono ?_
    rintro e w7 ⟨⟨s7, b7, A7, n7, c7, rfl, t7⟩, hB7⟩
    rw [HNX.out] at t7
    obtain ⟨v, rfl, rfl, rfl, rfl, rfl, tv⟩ := jc_mk t7
    replace a8 := blk_below a8 hB7
    replace ar := blk_below ar hB7
    replace ai := blk_below ai hB7
    replace B0 := bl_then B0 hB7
    clear f1 f2 f3 f4 k1 k2 k3 k4 hB7 t7 tz tu a11
    obtain ⟨⟨f1, f2, f3⟩, f4, f5, f6⟩ := bx3 a8
    have X1 := blk_set3 a8 (.int .i64 v.s) (.bool v.g) (.slice v.A v.n v.c)
    have X2 := RV.kp tv (((((Kp.refl 3 w7).set (p := ⟨g8, 0, none⟩) a8 (by decide) (.int .i64 v.s)).set (p := ⟨g8, 1, none⟩) (blk_set a8 0 _) (by decide) (.bool v.g)).set (p := ⟨g8, 2, none⟩) (blk_set (blk_set a8 0 _) 1 _) (by decide) (.slice v.A v.n v.c)))
    have X3 := blk_far3 ar (show w.heap.size ≠ g8 by omega) (.int .i64 v.s) (.bool v.g) (.slice v.A v.n v.c)
    have X4 := blk_far3 ai (show w.heap.size + 1 ≠ g8 by omega) (.int .i64 v.s) (.bool v.g) (.slice v.A v.n v.c)
    have X5 := bl_set3 B0 (show w.heap.size ≤ g8 by omega) (.int .i64 v.s) (.bool v.g) (.slice v.A v.n v.c)
    have HX := Lib.hid (And.intro X1 (And.intro X2 (And.intro X3 (And.intro X4 X5))))
    clear X1 X2 X3 X4 X5 a8 ar ai B0 tv
    go_wp2
    go_roundw
    case rel => exact ⟨kk + 1, v, hlt, by go_num, HX.out.1, HX.out.2.1, HX.out.2.2.1, HX.out.2.2.2.1, HX.out.2.2.2.2⟩
    case measure => simp [intOf]; omega
  ·have e : m = kk := by omega
   subst e
   have HKP := Lib.hid (kM_pos M m).1
   have HK0 := Lib.hid (HKM.out m (Nat.le_refl m)).1
   have HKL : Hid (kM M M.length = kM M m) := Lib.hid (by rw [L'.out])
   have HGS : Hid (∀ k, k ≤ m → (∀ j, Sz (17000 + k) ((gZ n F M (kM M m) k).1.getD j 0)) ∧ Sz (17000 + k) (gZ n F M (kM M m) k).2) := Lib.hid fun k hk => gZ_sz HM.out HK0.out (fun f hf => (HF.out f hf).2) k
   have HGN : Hid (∀ k, gZ n F M (kM M m) (k + 1) = plF n (gZ n F M (kM M m) k) (tmZ (F.getD k ([], 0)) ((ratQ (M.getD k (0, 0))).num * (kM M m).tdiv ((ratQ (M.getD k (0, 0))).den : Int)))) := Lib.hid fun _ => rfl
   have HG0 : Hid (gZ n F M (kM M m) 0 = (List.replicate n 0, 0)) := Lib.hid rfl
   have HSU : Hid ((suG n F M).1 = (gZ n F M (kM M m) m).1.map (·.tdiv (gcZ n (gZ n F M (kM M m) m) (kM M m))) ∧ (suG n F M).2 = (gZ n F M (kM M m) m).2.tdiv (gcZ n (gZ n F M (kM M m) m) (kM M m)) ∧ suK n F M = (kM M m).tdiv (gcZ n (gZ n F M (kM M m) m) (kM M m))) := Lib.hid (by unfold suG suK; rw [L.out, L'.out]; exact ⟨rfl, rfl, rfl⟩)
   have HGP : Hid (0 < gcZ n (gZ n F M (kM M m) m) (kM M m)) := Lib.hid (gcZ_spec (gZ_len M _ m) HKP.out).1
   generalize kM M m = KK at *
   generalize gZ n F M KK = G at *
   clear HKM
   go_wp2_with fail
   refine (r2zero_calls n _ (by omega)).mono ?_
   rintro e w4 ⟨⟨A0, c0, x0, rfl, t0, t0'⟩, hB4⟩
   have h813 : g8 < w4.heap.size := blk_lt (blk_below a8 hB4)
   replace a8 := blk_alloc (blk_below a8 hB4) (.cells #[.slice A0 n c0, .int .i64 x0.s, .bool x0.g, .slice x0.A x0.n x0.c] 60)
   replace ar := blk_alloc (blk_below ar hB4) (.cells #[.slice A0 n c0, .int .i64 x0.s, .bool x0.g, .slice x0.A x0.n x0.c] 60)
   replace ai := blk_alloc (blk_below ai hB4) (.cells #[.slice A0 n c0, .int .i64 x0.s, .bool x0.g, .slice x0.A x0.n x0.c] 60)
   replace tz := RV.al2 (RV.below tz hB4) (.cells #[.slice A0 n c0, .int .i64 x0.s, .bool x0.g, .slice x0.A x0.n x0.c] 60)
   have B4 := bl_alloc (bl_then B0 hB4) (.cells #[.slice A0 n c0, .int .i64 x0.s, .bool x0.g, .slice x0.A x0.n x0.c] 60)
   have a13 : (w4.alloc (.cells #[.slice A0 n c0, .int .i64 x0.s, .bool x0.g, .slice x0.A x0.n x0.c] 60)).heap[w4.heap.size]? = some (.cells #[.slice A0 n c0, .int .i64 x0.s, .bool x0.g, .slice x0.A x0.n x0.c] 60 (0, 0)) := blk_at _ rfl
   have tg : RdT (w4.alloc (.cells #[.slice A0 n c0, .int .i64 x0.s, .bool x0.g, .slice x0.A x0.n x0.c] 60)) A0 n (G 0).1 := by rw [HG0.out]; exact t0.below (bl_alloc (Below.refl _ _) _)
   have tg' : x0.Is (w4.alloc (.cells #[.slice A0 n c0, .int .i64 x0.s, .bool x0.g, .slice x0.A x0.n x0.c] 60)) (G 0).2 := by rw [HG0.out]; exact RV.al2 t0' _
   clear t0 t0' B0 hB4
   go_wp2_with fail
   generalize w4.heap.size = g13 at *
   generalize w4.alloc (.cells #[.slice A0 n c0, .int .i64 x0.s, .bool x0.g, .slice x0.A x0.n x0.c] 60) = W2 at *
   go_loopw [49] (fun i wr => ∃ (kk : Nat) (A9 : Option Addr) (c9 : Nat) (x9 : JC), kk ≤ m ∧ i = .int .i64 kk ∧ wr.heap[g13]? = some (.cells #[.slice A9 n c9, .int .i64 x9.s, .bool x9.g, .slice x9.A x9.n x9.c] 60 (0, 0)) ∧ RdT wr A9 n (G kk).1 ∧ x9.Is wr (G kk).2 ∧ wr.heap[g8]? = some (.cells #[.int .i64 z.s, .bool z.g, .slice z.A z.n z.c] 49 (0, 0)) ∧ RV wr z.s z.g z.A z.n z.c KK ∧ wr.heap[w.heap.size]? = some (.cells #[.slice none 0 0, .int .i64 0, .bool false, .slice none 0 0] 60 (0, 0)) ∧ wr.heap[w.heap.size + 1]? = some (.cells #[.int .i64 0, .bool false, .slice none 0 0] 49 (0, 0)) ∧ Below w.heap.size w wr) (fun i _ => m - (intOf i).toNat)
   case atStart => exact ⟨0, A0, c0, x0, Nat.zero_le _, rfl, a13, tg, tg', a8, tz, ar, ai, B4⟩
   case round =>
    clear a13 tg tg' a8 tz ar ai B4
    obtain ⟨kk, A9, c9, x9, hkk, rfl, a13, tg, tg', a8, tz, ar, ai, B0⟩ := hrel
    by_cases hlt : kk < m
    ·obtain ⟨gx, rfl, lgx, hcx⟩ := (h'.below B0).2.2 (by omega)
     obtain ⟨y, ⟨p1, p2, p3, p4, p5, p6⟩, ty0⟩ := hcx kk hlt
     rw [getD_map ratP M kk (0, 0) 0 (by rw [L'.out]; exact hlt)] at ty0
     have ty : RRV wr y.s y.g y.A y.n y.c y.s' y.g' y.A' y.n' y.c' (ratQ (M.getD kk (0, 0))) := ty0
     obtain ⟨gf, rfl, _, hcf⟩ := (h.below B0).2.2 (by omega)
     obtain ⟨⟨Ay, ny, cy, xy⟩, ⟨r1, r2, r3, r4⟩, tr, tr'⟩ := hcf kk hlt
     dsimp only at r1 r2 r3 r4 tr tr'
     clear hcf
     have hmf : F.getD kk ([], 0) ∈ F := mem_getD (by rw [L.out]; exact hlt)
     have eny : n = ny := by rw [← (HF.out _ hmf).1]; exact tr.1.1
     subst eny
     have HFZ : Hid ((∀ j, Sz 17000 ((F.getD kk ([], 0)).1.getD j 0)) ∧ Sz 17000 (F.getD kk ([], 0)).2) := Lib.hid ⟨fun j => ((HF.out _ hmf).2.1 j).mono (by omega), (HF.out _ hmf).2.2.mono (by omega)⟩
     have HFZ1 := Lib.hid (HF.out _ hmf).2
     have HQD : Hid (Sz 8000 ((ratQ (M.getD kk (0, 0))).den : Int)) := Lib.hid ((HM.out kk).2.mono (by omega))
     have HQN : Hid (((ratQ (M.getD kk (0, 0))).den : Int) ≠ 0) := Lib.hid (by have := (ratQ (M.getD kk (0, 0))).den_pos; omega)
     have HQN1 : Hid (Sz 8000 (ratQ (M.getD kk (0, 0))).num) := Lib.hid ((HM.out kk).1.mono (by omega))
     have HGZ : Hid ((∀ j, Sz 20000 ((G kk).1.getD j 0)) ∧ Sz 20000 (G kk).2) := Lib.hid ⟨fun j => ((HGS.out kk hkk).1 j).mono (by omega), (HGS.out kk hkk).2.mono (by omega)⟩
     have HNX0 := Lib.hid (HGN.out kk)
     have tyd : RV wr y.s' y.g' y.A' y.n' y.c' ((ratQ (M.getD kk (0, 0))).den : Int) := ty.2
     have tyn : RV wr y.s y.g y.A y.n y.c (ratQ (M.getD kk (0, 0))).num := ty.1
     clear hcx ty0 ty hmf
     generalize (ratQ (M.getD kk (0, 0))).num = qn at *
     generalize ((ratQ (M.getD kk (0, 0))).den : Int) = qd at *
     generalize F.getD kk ([], 0) = f1 at *
     have HQT : Hid (Sz 8000 (KK.tdiv qd)) := Lib.hid (HK0.out.le (tdiv_abs _ _))
     have HPZ : Hid (Sz 17000 (qn * KK.tdiv qd)) := Lib.hid ((HQN1.out.mul HQT.out).mono (by omega))
     have HTZ : Hid ((∀ j, Sz 20000 ((f1.1.map (· * (qn * KK.tdiv qd))).getD j 0)) ∧ Sz 20000 (f1.2 * (qn * KK.tdiv qd))) := Lib.hid ⟨fun j => map_sz (K := 100) (f := (· * (qn * KK.tdiv qd))) (fun z hz => (hz.mul HPZ.out).mono (by omega)) HFZ1.out.1 j, (HFZ1.out.2.mul HPZ.out).mono (by omega)⟩
     have HNX : Hid (plZ n (G kk).1 (f1.1.map (· * (qn * KK.tdiv qd))) = (G (kk + 1)).1 ∧ (G kk).2 + f1.2 * (qn * KK.tdiv qd) = (G (kk + 1)).2) := Lib.hid (by rw [HNX0.out]; exact ⟨rfl, rfl⟩)
     clear HNX0 HFZ1
     generalize G kk = gk at *
     have a15 : (wr.alloc (.cells #[.slice Ay n cy, .int .i64 xy.s, .bool xy.g, .slice xy.A xy.n xy.c] 60)).heap[wr.heap.size]? = some (.cells #[.slice Ay n cy, .int .i64 xy.s, .bool xy.g, .slice xy.A xy.n xy.c] 60 (0, 0)) := blk_at _ rfl
     have BX : Below wr.heap.size wr (wr.alloc (.cells #[.slice Ay n cy, .int .i64 xy.s, .bool xy.g, .slice xy.A xy.n xy.c] 60)) := bl_alloc (Below.refl _ _) _
     replace a13 := blk_below a13 BX
     replace a8 := blk_below a8 BX
     replace ar := blk_below ar BX
     replace ai := blk_below ai BX
     replace tg := tg.below BX
     replace tg' := RV.below tg' BX
     replace tz := RV.below tz BX
     replace tyd := RV.below tyd BX
     replace tyn := RV.below tyn BX
     replace tr := tr.below BX
     replace tr' := RV.below tr' BX
     replace B0 := bl_then B0 BX
     have p1 := ((cells_below BX).1 _ _ lgx).trans p1
     have p2 := ((cells_below BX).1 _ _ lgx).trans p2
     have p3 := ((cells_below BX).1 _ _ lgx).trans p3
     have p4 := ((cells_below BX).1 _ _ lgx).trans p4
     have p5 := ((cells_below BX).1 _ _ lgx).trans p5
     have p6 := ((cells_below BX).1 _ _ lgx).trans p6
     replace lgx := Nat.lt_of_lt_of_le lgx BX.size
     have hk0 : (0 : Int) ≤ (kk : Int) := by omega
     have hkn : (kk : Int) < (m : Int) := by omega
     go_upto_region 12 with (fail)
     clear BX r1 r2 r3 r4
     generalize wr.heap.size = g15 at *
     generalize wr.alloc (.cells #[.slice Ay n cy, .int .i64 xy.s, .bool xy.g, .slice xy.A xy.n xy.c] 60) = W5 at *
     go_cut [16, 17] (fun p p2 wc => ∃ (g16 : Nat) (u : JC), p = .pointer (some ⟨g16, 0, none⟩) ∧ wc.heap[g16]? = some (.cells #[.int .i64 u.s, .bool u.g, .slice u.A u.n u.c] 49 (0, 0)) ∧ RV wc u.s u.g u.A u.n u.c (KK.tdiv qd) ∧ W5.heap.size ≤ g16 ∧ Below W5.heap.size W5 wc)
     case first =>
      have hSd : ∀ W, Below W5.heap.size W5 W → (W.cell? ⟨g8, 0, none⟩ = some (Value.int .i64 z.s) ∧ W.cell? ⟨g8, 1, none⟩ = some (Value.bool z.g) ∧ W.cell? ⟨g8, 2, none⟩ = some (Value.slice z.A z.n z.c)) ∧ W.cell? ⟨gx, kk * 6 + 3, none⟩ = some (Value.int .i64 y.s') ∧ W.cell? ⟨gx, kk * 6 + 4, none⟩ = some (Value.bool y.g') ∧ W.cell? ⟨gx, kk * 6 + 5, none⟩ = some (Value.slice y.A' y.n' y.c') := fun W hB => And.intro (cx3 (blk_below a8 hB)) ⟨((cells_below hB).1 _ _ lgx).trans p4, ((cells_below hB).1 _ _ lgx).trans p5, ((cells_below hB).1 _ _ lgx).trans p6⟩
      have VD : Below W5.heap.size W5 W5.drew := bl_drew (Below.refl _ _)
      have hS0 := hSd _ VD
      refine wp_region_U (n := 13) (fun W => (W.cell? ⟨g8, 0, none⟩ = some (Value.int .i64 z.s) ∧ W.cell? ⟨g8, 1, none⟩ = some (Value.bool z.g) ∧ W.cell? ⟨g8, 2, none⟩ = some (Value.slice z.A z.n z.c)) ∧ W.cell? ⟨gx, kk * 6 + 3, none⟩ = some (Value.int .i64 y.s') ∧ W.cell? ⟨gx, kk * 6 + 4, none⟩ = some (Value.bool y.g') ∧ W.cell? ⟨gx, kk * 6 + 5, none⟩ = some (Value.slice y.A' y.n' y.c')) (by kernel_rfl) ?_
      refine wpU_take (n := 13) (i := 0) (v := ?_) (by decide) (by kernel_rfl) rfl (by kernel_rfl) (by kernel_rfl) (by kernel_rfl) (fun _ _ _ h => h) (by kernel_rfl) (Or.inl ⟨by rfl, ?_⟩) hS0 ?_
      rotate_left
      ·intro w' hSw
       (try dsimp only at hSw)
       go_simp
       (try with_reducible rfl)
      try simp only [Act.put, setIfInBounds_toArray, set_cons_zero, set_cons_succ]
      refine wpU_take (n := 13) (i := 1) (v := ?_) (by decide) (by kernel_rfl) rfl (by kernel_rfl) (by kernel_rfl) (by kernel_rfl) (fun _ _ _ h => h) (by kernel_rfl) (Or.inl ⟨by rfl, ?_⟩) hS0 ?_
      rotate_left
      ·intro w' hSw
       (try dsimp only at hSw)
       go_simp
       (try with_reducible rfl)
      try simp only [Act.put, setIfInBounds_toArray, set_cons_zero, set_cons_succ]
      refine wpU_take (n := 13) (i := 2) (v := ?_) (by decide) (by kernel_rfl) rfl (by kernel_rfl) (by kernel_rfl) (by kernel_rfl) (fun _ _ _ h => h) (by kernel_rfl) (Or.inl ⟨by rfl, ?_⟩) hS0 ?_
      rotate_left
      ·intro w' hSw
       (try dsimp only at hSw)
       go_simp
       (try with_reducible rfl)
      try simp only [Act.put, setIfInBounds_toArray, set_cons_zero, set_cons_succ]
      refine wpU_take (n := 13) (i := 3) (v := ?_) (by decide) (by kernel_rfl) rfl (by kernel_rfl) (by kernel_rfl) (by kernel_rfl) (fun _ _ _ h => h) (by kernel_rfl) (Or.inl ⟨by rfl, ?_⟩) hS0 ?_
      rotate_left
      ·intro w' hSw
       (try dsimp only at hSw)
       go_simp
       (try with_reducible rfl)
      try simp only [Act.put, setIfInBounds_toArray, set_cons_zero, set_cons_succ]
      refine wpU_take (n := 13) (i := 4) (v := ?_) (by decide) (by kernel_rfl) rfl (by kernel_rfl) (by kernel_rfl) (by kernel_rfl) (fun _ _ _ h => h) (by kernel_rfl) (Or.inl ⟨by rfl, ?_⟩) hS0 ?_
      rotate_left
      ·intro w' hSw
       (try dsimp only at hSw)
       go_simp
       (try with_reducible rfl)
      try simp only [Act.put, setIfInBounds_toArray, set_cons_zero, set_cons_succ]
      refine wpU_take (n := 13) (i := 5) (v := ?_) (by decide) (by kernel_rfl) rfl (by kernel_rfl) (by kernel_rfl) (by kernel_rfl) (fun _ _ _ h => h) (by kernel_rfl) (Or.inl ⟨by rfl, ?_⟩) hS0 ?_
      rotate_left
      ·intro w' hSw
       (try dsimp only at hSw)
       go_simp
       (try with_reducible rfl)
      try simp only [Act.put, setIfInBounds_toArray, set_cons_zero, set_cons_succ]
      refine wpU_three (n := 13) (i := 6) (k := 10) (l := 11) (by kernel_rfl) rfl rfl rfl (fun K9 hK9 => ?zA24) (fun K9 hK9 => ?zB24) (fun K9 hK9 => ?zC24)
      case' zA24 =>
       go_simp
       refine (rover_calls z.s z.g z.A z.n z.c KK y.s' y.g' y.A' y.n' y.c' qd _ (RV.kp tz (Kp.below VD)) (RV.kp tyd (Kp.below VD)) 8000 HK0.out HQD.out (by omega) HQN.out).mono ?_
       rintro e y2 ⟨⟨s2, b2, A2, n2, c2, s3, b3, A3, n3, c3, rfl, t2, t3⟩, hBy2⟩
       have V1 : Below W5.heap.size W5 y2 := bl_then VD hBy2
       refine hK9.out _ _ (fun _ _ => hSd _ V1) (fun _ => ?_)
       clear hK9 K9
       try simp only [Act.put, setIfInBounds_toArray, set_cons_zero, set_cons_succ]
       refine wpU_take (n := 13) (i := 7) (v := ?_) (by decide) (by kernel_rfl) rfl (by kernel_rfl) (by kernel_rfl) (by kernel_rfl) (fun _ _ _ h => h) (by kernel_rfl) (Or.inl ⟨by rfl, ?_⟩) (hSd _ V1) ?_
       rotate_left
       ·intro w' hSw
        (try dsimp only at hSw)
        go_simp
        (try with_reducible rfl)
       try simp only [Act.put, setIfInBounds_toArray, set_cons_zero, set_cons_succ]
       refine wpU_take (n := 13) (i := 8) (v := ?_) (by decide) (by kernel_rfl) rfl (by kernel_rfl) (by kernel_rfl) (by kernel_rfl) (fun _ _ _ h => h) (by kernel_rfl) (Or.inl ⟨by rfl, ?_⟩) (hSd _ V1) ?_
       rotate_left
       ·intro w' hSw
        (try dsimp only at hSw)
        go_simp
        (try with_reducible rfl)
       try simp only [Act.put, setIfInBounds_toArray, set_cons_zero, set_cons_succ]
       refine wpU_take (n := 13) (i := 9) (v := ?_) (by decide) (by kernel_rfl) rfl (by kernel_rfl) (by kernel_rfl) (by kernel_rfl) (fun _ _ _ h => h) (by kernel_rfl) (Or.inl ⟨by rfl, ?_⟩) (hSd _ V1) ?_
       rotate_left
       ·intro w' hSw
        (try dsimp only at hSw)
        go_simp
        (try with_reducible rfl)
       try simp only [Act.put, setIfInBounds_toArray, set_cons_zero, set_cons_succ]
       refine wpU_two (n := 13) (i := 10) (k := 11) (by kernel_rfl) rfl rfl (fun K9 hK9 => ?zA25) (fun K9 hK9 => ?zB25)
       case' zA25 =>
        go_simp
        have V2 : Below W5.heap.size W5 (y2.alloc (.cells #[.int .i64 0, .bool false, .slice none 0 0] 49)) := bl_alloc V1 _
        replace t2 := RV.al2 t2 (.cells #[.int .i64 0, .bool false, .slice none 0 0] 49)
        replace t3 := RV.al2 t3 (.cells #[.int .i64 0, .bool false, .slice none 0 0] 49)
        have a16 : (y2.alloc (.cells #[.int .i64 0, .bool false, .slice none 0 0] 49)).heap[y2.heap.size]? = some (.cells #[.int .i64 0, .bool false, .slice none 0 0] 49 (0, 0)) := blk_at _ (by simp)
        have lba16 : W5.heap.size ≤ y2.heap.size := by have := V1.size; (try simp at this); omega
        refine hK9.out _ _ (fun _ _ => hSd _ V2) (fun _ => ?_)
        clear hK9 K9
        try simp only [Act.put, setIfInBounds_toArray, set_cons_zero, set_cons_succ]
        refine wpU_one (n := 13) (i := 11) (by kernel_rfl) rfl (fun K9 hK9 => ?_)
        go_simp
        have lta17 : y2.heap.size < y2.heap.size + 1 := by have := blk_lt a16; (try simp at this); omega
        have V3 : Below W5.heap.size W5 ((y2.alloc (.cells #[.int .i64 0, .bool false, .slice none 0 0] 49)).alloc (.cells #[.int .i64 0, .bool false, .slice none 0 0] 49)) := bl_alloc V2 _
        replace t2 := RV.al2 t2 (.cells #[.int .i64 0, .bool false, .slice none 0 0] 49)
        replace t3 := RV.al2 t3 (.cells #[.int .i64 0, .bool false, .slice none 0 0] 49)
        replace a16 := blk_alloc a16 (.cells #[.int .i64 0, .bool false, .slice none 0 0] 49)
        have a17 : ((y2.alloc (.cells #[.int .i64 0, .bool false, .slice none 0 0] 49)).alloc (.cells #[.int .i64 0, .bool false, .slice none 0 0] 49)).heap[y2.heap.size + 1]? = some (.cells #[.int .i64 0, .bool false, .slice none 0 0] 49 (0, 0)) := blk_at _ (by simp)
        have lba17 : W5.heap.size ≤ y2.heap.size + 1 := by have := V2.size; (try simp at this); omega
        refine hK9.out _ _ (fun _ _ => hSd _ V3) (fun _ => ?_)
        clear hK9 K9
        try simp only [Act.put, setIfInBounds_toArray, set_cons_zero, set_cons_succ]
        generalize ((y2.alloc (.cells #[.int .i64 0, .bool false, .slice none 0 0] 49)).alloc (.cells #[.int .i64 0, .bool false, .slice none 0 0] 49)) = WL at *
        have ne1 : y2.heap.size ≠ y2.heap.size + 1 := by omega
        have VV := V3
        generalize y2.heap.size = G1 at *
        generalize G1 + 1 = G2 at *
       case' zB25 =>
        go_simp
        have V2 : Below W5.heap.size W5 (y2.alloc (.cells #[.int .i64 0, .bool false, .slice none 0 0] 49)) := bl_alloc V1 _
        replace t2 := RV.al2 t2 (.cells #[.int .i64 0, .bool false, .slice none 0 0] 49)
        replace t3 := RV.al2 t3 (.cells #[.int .i64 0, .bool false, .slice none 0 0] 49)
        have a17 : (y2.alloc (.cells #[.int .i64 0, .bool false, .slice none 0 0] 49)).heap[y2.heap.size]? = some (.cells #[.int .i64 0, .bool false, .slice none 0 0] 49 (0, 0)) := blk_at _ (by simp)
        have lba17 : W5.heap.size ≤ y2.heap.size := by have := V1.size; (try simp at this); omega
        refine hK9.out _ _ (fun _ _ => hSd _ V2) (fun _ => ?_)
        clear hK9 K9
        try simp only [Act.put, setIfInBounds_toArray, set_cons_zero, set_cons_succ]
        refine wpU_one (n := 13) (i := 10) (by kernel_rfl) rfl (fun K9 hK9 => ?_)
        go_simp
        have lta16 : y2.heap.size < y2.heap.size + 1 := by have := blk_lt a17; (try simp at this); omega
        have V3 : Below W5.heap.size W5 ((y2.alloc (.cells #[.int .i64 0, .bool false, .slice none 0 0] 49)).alloc (.cells #[.int .i64 0, .bool false, .slice none 0 0] 49)) := bl_alloc V2 _
        replace t2 := RV.al2 t2 (.cells #[.int .i64 0, .bool false, .slice none 0 0] 49)
        replace t3 := RV.al2 t3 (.cells #[.int .i64 0, .bool false, .slice none 0 0] 49)
        replace a17 := blk_alloc a17 (.cells #[.int .i64 0, .bool false, .slice none 0 0] 49)
        have a16 : ((y2.alloc (.cells #[.int .i64 0, .bool false, .slice none 0 0] 49)).alloc (.cells #[.int .i64 0, .bool false, .slice none 0 0] 49)).heap[y2.heap.size + 1]? = some (.cells #[.int .i64 0, .bool false, .slice none 0 0] 49 (0, 0)) := blk_at _ (by simp)
        have lba16 : W5.heap.size ≤ y2.heap.size + 1 := by have := V2.size; (try simp at this); omega
        refine hK9.out _ _ (fun _ _ => hSd _ V3) (fun _ => ?_)
        clear hK9 K9
        try simp only [Act.put, setIfInBounds_toArray, set_cons_zero, set_cons_succ]
        generalize ((y2.alloc (.cells #[.int .i64 0, .bool false, .slice none 0 0] 49)).alloc (.cells #[.int .i64 0, .bool false, .slice none 0 0] 49)) = WL at *
        have ne1 : y2.heap.size + 1 ≠ y2.heap.size := by omega
        have VV := V3
        generalize y2.heap.size = G2 at *
        generalize G2 + 1 = G1 at *
      case' zB24 =>
       go_simp
       have V1 : Below W5.heap.size W5 (W5.drew.alloc (.cells #[.int .i64 0, .bool false, .slice none 0 0] 49)) := bl_alloc VD _
       have a16 : (W5.drew.alloc (.cells #[.int .i64 0, .bool false, .slice none 0 0] 49)).heap[W5.heap.size]? = some (.cells #[.int .i64 0, .bool false, .slice none 0 0] 49 (0, 0)) := blk_at _ (by simp)
       have lba16 : W5.heap.size ≤ W5.heap.size := by have := VD.size; (try simp at this); omega
       refine hK9.out _ _ (fun _ _ => hSd _ V1) (fun _ => ?_)
       clear hK9 K9
       try simp only [Act.put, setIfInBounds_toArray, set_cons_zero, set_cons_succ]
       refine wpU_two (n := 13) (i := 6) (k := 11) (by kernel_rfl) rfl rfl (fun K9 hK9 => ?zA28) (fun K9 hK9 => ?zB28)
       case' zA28 =>
        go_simp
        refine (rover_calls z.s z.g z.A z.n z.c KK y.s' y.g' y.A' y.n' y.c' qd _ (RV.kp tz (Kp.below V1)) (RV.kp tyd (Kp.below V1)) 8000 HK0.out HQD.out (by omega) HQN.out).mono ?_
        rintro e y2 ⟨⟨s2, b2, A2, n2, c2, s3, b3, A3, n3, c3, rfl, t2, t3⟩, hBy2⟩
        have V2 : Below W5.heap.size W5 y2 := bl_then V1 hBy2
        replace a16 := blk_below a16 hBy2
        refine hK9.out _ _ (fun _ _ => hSd _ V2) (fun _ => ?_)
        clear hK9 K9
        try simp only [Act.put, setIfInBounds_toArray, set_cons_zero, set_cons_succ]
        refine wpU_take (n := 13) (i := 7) (v := ?_) (by decide) (by kernel_rfl) rfl (by kernel_rfl) (by kernel_rfl) (by kernel_rfl) (fun _ _ _ h => h) (by kernel_rfl) (Or.inl ⟨by rfl, ?_⟩) (hSd _ V2) ?_
        rotate_left
        ·intro w' hSw
         (try dsimp only at hSw)
         go_simp
         (try with_reducible rfl)
        try simp only [Act.put, setIfInBounds_toArray, set_cons_zero, set_cons_succ]
        refine wpU_take (n := 13) (i := 8) (v := ?_) (by decide) (by kernel_rfl) rfl (by kernel_rfl) (by kernel_rfl) (by kernel_rfl) (fun _ _ _ h => h) (by kernel_rfl) (Or.inl ⟨by rfl, ?_⟩) (hSd _ V2) ?_
        rotate_left
        ·intro w' hSw
         (try dsimp only at hSw)
         go_simp
         (try with_reducible rfl)
        try simp only [Act.put, setIfInBounds_toArray, set_cons_zero, set_cons_succ]
        refine wpU_take (n := 13) (i := 9) (v := ?_) (by decide) (by kernel_rfl) rfl (by kernel_rfl) (by kernel_rfl) (by kernel_rfl) (fun _ _ _ h => h) (by kernel_rfl) (Or.inl ⟨by rfl, ?_⟩) (hSd _ V2) ?_
        rotate_left
        ·intro w' hSw
         (try dsimp only at hSw)
         go_simp
         (try with_reducible rfl)
        try simp only [Act.put, setIfInBounds_toArray, set_cons_zero, set_cons_succ]
        refine wpU_one (n := 13) (i := 11) (by kernel_rfl) rfl (fun K9 hK9 => ?_)
        go_simp
        have lta17 : W5.heap.size < y2.heap.size := by have := blk_lt a16; (try simp at this); omega
        have V3 : Below W5.heap.size W5 (y2.alloc (.cells #[.int .i64 0, .bool false, .slice none 0 0] 49)) := bl_alloc V2 _
        replace a16 := blk_alloc a16 (.cells #[.int .i64 0, .bool false, .slice none 0 0] 49)
        replace t2 := RV.al2 t2 (.cells #[.int .i64 0, .bool false, .slice none 0 0] 49)
        replace t3 := RV.al2 t3 (.cells #[.int .i64 0, .bool false, .slice none 0 0] 49)
        have a17 : (y2.alloc (.cells #[.int .i64 0, .bool false, .slice none 0 0] 49)).heap[y2.heap.size]? = some (.cells #[.int .i64 0, .bool false, .slice none 0 0] 49 (0, 0)) := blk_at _ (by simp)
        have lba17 : W5.heap.size ≤ y2.heap.size := by have := V2.size; (try simp at this); omega
        refine hK9.out _ _ (fun _ _ => hSd _ V3) (fun _ => ?_)
        clear hK9 K9
        try simp only [Act.put, setIfInBounds_toArray, set_cons_zero, set_cons_succ]
        generalize (y2.alloc (.cells #[.int .i64 0, .bool false, .slice none 0 0] 49)) = WL at *
        have ne1 : W5.heap.size ≠ y2.heap.size := by omega
        have VV := V3
        generalize W5.heap.size = G1 at *
        generalize y2.heap.size = G2 at *
       case' zB28 =>
        go_simp
        have lta17 : W5.heap.size < W5.heap.size + 1 := by have := blk_lt a16; (try simp at this); omega
        have V2 : Below W5.heap.size W5 ((W5.drew.alloc (.cells #[.int .i64 0, .bool false, .slice none 0 0] 49)).alloc (.cells #[.int .i64 0, .bool false, .slice none 0 0] 49)) := bl_alloc V1 _
        replace a16 := blk_alloc a16 (.cells #[.int .i64 0, .bool false, .slice none 0 0] 49)
        have a17 : ((W5.drew.alloc (.cells #[.int .i64 0, .bool false, .slice none 0 0] 49)).alloc (.cells #[.int .i64 0, .bool false, .slice none 0 0] 49)).heap[W5.heap.size + 1]? = some (.cells #[.int .i64 0, .bool false, .slice none 0 0] 49 (0, 0)) := blk_at _ (by simp)
        have lba17 : W5.heap.size ≤ W5.heap.size + 1 := by have := V1.size; (try simp at this); omega
        refine hK9.out _ _ (fun _ _ => hSd _ V2) (fun _ => ?_)
        clear hK9 K9
        try simp only [Act.put, setIfInBounds_toArray, set_cons_zero, set_cons_succ]
        refine wpU_one (n := 13) (i := 6) (by kernel_rfl) rfl (fun K9 hK9 => ?_)
        go_simp
        refine (rover_calls z.s z.g z.A z.n z.c KK y.s' y.g' y.A' y.n' y.c' qd _ (RV.kp tz (Kp.below V2)) (RV.kp tyd (Kp.below V2)) 8000 HK0.out HQD.out (by omega) HQN.out).mono ?_
        rintro e y2 ⟨⟨s2, b2, A2, n2, c2, s3, b3, A3, n3, c3, rfl, t2, t3⟩, hBy2⟩
        have V3 : Below W5.heap.size W5 y2 := bl_then V2 hBy2
        replace a16 := blk_below a16 hBy2
        replace a17 := blk_below a17 hBy2
        refine hK9.out _ _ (fun _ _ => hSd _ V3) (fun _ => ?_)
        clear hK9 K9
        try simp only [Act.put, setIfInBounds_toArray, set_cons_zero, set_cons_succ]
        refine wpU_take (n := 13) (i := 7) (v := ?_) (by decide) (by kernel_rfl) rfl (by kernel_rfl) (by kernel_rfl) (by kernel_rfl) (fun _ _ _ h => h) (by kernel_rfl) (Or.inl ⟨by rfl, ?_⟩) (hSd _ V3) ?_
        rotate_left
        ·intro w' hSw
         (try dsimp only at hSw)
         go_simp
         (try with_reducible rfl)
        try simp only [Act.put, setIfInBounds_toArray, set_cons_zero, set_cons_succ]
        refine wpU_take (n := 13) (i := 8) (v := ?_) (by decide) (by kernel_rfl) rfl (by kernel_rfl) (by kernel_rfl) (by kernel_rfl) (fun _ _ _ h => h) (by kernel_rfl) (Or.inl ⟨by rfl, ?_⟩) (hSd _ V3) ?_
        rotate_left
        ·intro w' hSw
         (try dsimp only at hSw)
         go_simp
         (try with_reducible rfl)
        try simp only [Act.put, setIfInBounds_toArray, set_cons_zero, set_cons_succ]
        refine wpU_take (n := 13) (i := 9) (v := ?_) (by decide) (by kernel_rfl) rfl (by kernel_rfl) (by kernel_rfl) (by kernel_rfl) (fun _ _ _ h => h) (by kernel_rfl) (Or.inl ⟨by rfl, ?_⟩) (hSd _ V3) ?_
        rotate_left
        ·intro w' hSw
         (try dsimp only at hSw)
         go_simp
         (try with_reducible rfl)
        try simp only [Act.put, setIfInBounds_toArray, set_cons_zero, set_cons_succ]
        generalize y2 = WL at *
        have ne1 : W5.heap.size ≠ W5.heap.size + 1 := by omega
        have VV := V3
        generalize W5.heap.size = G1 at *
        generalize G1 + 1 = G2 at *
      case' zC24 =>
       go_simp
       have V1 : Below W5.heap.size W5 (W5.drew.alloc (.cells #[.int .i64 0, .bool false, .slice none 0 0] 49)) := bl_alloc VD _
       have a17 : (W5.drew.alloc (.cells #[.int .i64 0, .bool false, .slice none 0 0] 49)).heap[W5.heap.size]? = some (.cells #[.int .i64 0, .bool false, .slice none 0 0] 49 (0, 0)) := blk_at _ (by simp)
       have lba17 : W5.heap.size ≤ W5.heap.size := by have := VD.size; (try simp at this); omega
       refine hK9.out _ _ (fun _ _ => hSd _ V1) (fun _ => ?_)
       clear hK9 K9
       try simp only [Act.put, setIfInBounds_toArray, set_cons_zero, set_cons_succ]
       refine wpU_two (n := 13) (i := 6) (k := 10) (by kernel_rfl) rfl rfl (fun K9 hK9 => ?zA31) (fun K9 hK9 => ?zB31)
       case' zA31 =>
        go_simp
        refine (rover_calls z.s z.g z.A z.n z.c KK y.s' y.g' y.A' y.n' y.c' qd _ (RV.kp tz (Kp.below V1)) (RV.kp tyd (Kp.below V1)) 8000 HK0.out HQD.out (by omega) HQN.out).mono ?_
        rintro e y2 ⟨⟨s2, b2, A2, n2, c2, s3, b3, A3, n3, c3, rfl, t2, t3⟩, hBy2⟩
        have V2 : Below W5.heap.size W5 y2 := bl_then V1 hBy2
        replace a17 := blk_below a17 hBy2
        refine hK9.out _ _ (fun _ _ => hSd _ V2) (fun _ => ?_)
        clear hK9 K9
        try simp only [Act.put, setIfInBounds_toArray, set_cons_zero, set_cons_succ]
        refine wpU_take (n := 13) (i := 7) (v := ?_) (by decide) (by kernel_rfl) rfl (by kernel_rfl) (by kernel_rfl) (by kernel_rfl) (fun _ _ _ h => h) (by kernel_rfl) (Or.inl ⟨by rfl, ?_⟩) (hSd _ V2) ?_
        rotate_left
        ·intro w' hSw
         (try dsimp only at hSw)
         go_simp
         (try with_reducible rfl)
        try simp only [Act.put, setIfInBounds_toArray, set_cons_zero, set_cons_succ]
        refine wpU_take (n := 13) (i := 8) (v := ?_) (by decide) (by kernel_rfl) rfl (by kernel_rfl) (by kernel_rfl) (by kernel_rfl) (fun _ _ _ h => h) (by kernel_rfl) (Or.inl ⟨by rfl, ?_⟩) (hSd _ V2) ?_
        rotate_left
        ·intro w' hSw
         (try dsimp only at hSw)
         go_simp
         (try with_reducible rfl)
        try simp only [Act.put, setIfInBounds_toArray, set_cons_zero, set_cons_succ]
        refine wpU_take (n := 13) (i := 9) (v := ?_) (by decide) (by kernel_rfl) rfl (by kernel_rfl) (by kernel_rfl) (by kernel_rfl) (fun _ _ _ h => h) (by kernel_rfl) (Or.inl ⟨by rfl, ?_⟩) (hSd _ V2) ?_
        rotate_left
        ·intro w' hSw
         (try dsimp only at hSw)
         go_simp
         (try with_reducible rfl)
        try simp only [Act.put, setIfInBounds_toArray, set_cons_zero, set_cons_succ]
        refine wpU_one (n := 13) (i := 10) (by kernel_rfl) rfl (fun K9 hK9 => ?_)
        go_simp
        have lta16 : W5.heap.size < y2.heap.size := by have := blk_lt a17; (try simp at this); omega
        have V3 : Below W5.heap.size W5 (y2.alloc (.cells #[.int .i64 0, .bool false, .slice none 0 0] 49)) := bl_alloc V2 _
        replace a17 := blk_alloc a17 (.cells #[.int .i64 0, .bool false, .slice none 0 0] 49)
        replace t2 := RV.al2 t2 (.cells #[.int .i64 0, .bool false, .slice none 0 0] 49)
        replace t3 := RV.al2 t3 (.cells #[.int .i64 0, .bool false, .slice none 0 0] 49)
        have a16 : (y2.alloc (.cells #[.int .i64 0, .bool false, .slice none 0 0] 49)).heap[y2.heap.size]? = some (.cells #[.int .i64 0, .bool false, .slice none 0 0] 49 (0, 0)) := blk_at _ (by simp)
        have lba16 : W5.heap.size ≤ y2.heap.size := by have := V2.size; (try simp at this); omega
        refine hK9.out _ _ (fun _ _ => hSd _ V3) (fun _ => ?_)
        clear hK9 K9
        try simp only [Act.put, setIfInBounds_toArray, set_cons_zero, set_cons_succ]
        generalize (y2.alloc (.cells #[.int .i64 0, .bool false, .slice none 0 0] 49)) = WL at *
        have ne1 : y2.heap.size ≠ W5.heap.size := by omega
        have VV := V3
        generalize y2.heap.size = G1 at *
        generalize W5.heap.size = G2 at *
       case' zB31 =>
        go_simp
        have lta16 : W5.heap.size < W5.heap.size + 1 := by have := blk_lt a17; (try simp at this); omega
        have V2 : Below W5.heap.size W5 ((W5.drew.alloc (.cells #[.int .i64 0, .bool false, .slice none 0 0] 49)).alloc (.cells #[.int .i64 0, .bool false, .slice none 0 0] 49)) := bl_alloc V1 _
        replace a17 := blk_alloc a17 (.cells #[.int .i64 0, .bool false, .slice none 0 0] 49)
        have a16 : ((W5.drew.alloc (.cells #[.int .i64 0, .bool false, .slice none 0 0] 49)).alloc (.cells #[.int .i64 0, .bool false, .slice none 0 0] 49)).heap[W5.heap.size + 1]? = some (.cells #[.int .i64 0, .bool false, .slice none 0 0] 49 (0, 0)) := blk_at _ (by simp)
        have lba16 : W5.heap.size ≤ W5.heap.size + 1 := by have := V1.size; (try simp at this); omega
        refine hK9.out _ _ (fun _ _ => hSd _ V2) (fun _ => ?_)
        clear hK9 K9
        try simp only [Act.put, setIfInBounds_toArray, set_cons_zero, set_cons_succ]
        refine wpU_one (n := 13) (i := 6) (by kernel_rfl) rfl (fun K9 hK9 => ?_)
        go_simp
        refine (rover_calls z.s z.g z.A z.n z.c KK y.s' y.g' y.A' y.n' y.c' qd _ (RV.kp tz (Kp.below V2)) (RV.kp tyd (Kp.below V2)) 8000 HK0.out HQD.out (by omega) HQN.out).mono ?_
        rintro e y2 ⟨⟨s2, b2, A2, n2, c2, s3, b3, A3, n3, c3, rfl, t2, t3⟩, hBy2⟩
        have V3 : Below W5.heap.size W5 y2 := bl_then V2 hBy2
        replace a17 := blk_below a17 hBy2
        replace a16 := blk_below a16 hBy2
        refine hK9.out _ _ (fun _ _ => hSd _ V3) (fun _ => ?_)
        clear hK9 K9
        try simp only [Act.put, setIfInBounds_toArray, set_cons_zero, set_cons_succ]
        refine wpU_take (n := 13) (i := 7) (v := ?_) (by decide) (by kernel_rfl) rfl (by kernel_rfl) (by kernel_rfl) (by kernel_rfl) (fun _ _ _ h => h) (by kernel_rfl) (Or.inl ⟨by rfl, ?_⟩) (hSd _ V3) ?_
        rotate_left
        ·intro w' hSw
         (try dsimp only at hSw)
         go_simp
         (try with_reducible rfl)
        try simp only [Act.put, setIfInBounds_toArray, set_cons_zero, set_cons_succ]
        refine wpU_take (n := 13) (i := 8) (v := ?_) (by decide) (by kernel_rfl) rfl (by kernel_rfl) (by kernel_rfl) (by kernel_rfl) (fun _ _ _ h => h) (by kernel_rfl) (Or.inl ⟨by rfl, ?_⟩) (hSd _ V3) ?_
        rotate_left
        ·intro w' hSw
         (try dsimp only at hSw)
         go_simp
         (try with_reducible rfl)
        try simp only [Act.put, setIfInBounds_toArray, set_cons_zero, set_cons_succ]
        refine wpU_take (n := 13) (i := 9) (v := ?_) (by decide) (by kernel_rfl) rfl (by kernel_rfl) (by kernel_rfl) (by kernel_rfl) (fun _ _ _ h => h) (by kernel_rfl) (Or.inl ⟨by rfl, ?_⟩) (hSd _ V3) ?_
        rotate_left
        ·intro w' hSw
         (try dsimp only at hSw)
         go_simp
         (try with_reducible rfl)
        try simp only [Act.put, setIfInBounds_toArray, set_cons_zero, set_cons_succ]
        generalize y2 = WL at *
        have ne1 : W5.heap.size + 1 ≠ W5.heap.size := by omega
        have VV := V3
        generalize W5.heap.size = G2 at *
        generalize G2 + 1 = G1 at *
      all_goals
       have ne2 := ne1.symm
       obtain ⟨⟨k1, k2, k3⟩, k4, k5, k6⟩ := bx3 a16
       have E1 := blk_set3 a16 (.int .i64 s2) (.bool b2) (.slice A2 n2 c2)
       have E2 := blk_far3 a17 ne2 (.int .i64 s2) (.bool b2) (.slice A2 n2 c2)
       have VA := (((VV.setCell (p := ⟨G1, 0, none⟩) lba16 (.int .i64 s2)).setCell (p := ⟨G1, 1, none⟩) lba16 (.bool b2)).setCell (p := ⟨G1, 2, none⟩) lba16 (.slice A2 n2 c2))
       have VB := (((VA.setCell (p := ⟨G2, 0, none⟩) lba17 (.int .i64 s3)).setCell (p := ⟨G2, 1, none⟩) lba17 (.bool b3)).setCell (p := ⟨G2, 2, none⟩) lba17 (.slice A3 n3 c3))
       have E3 := blk_far3 E1 ne1 (.int .i64 s3) (.bool b3) (.slice A3 n3 c3)
       have tZ := RV.kp (RV.kp t2 ((((Kp.refl 3 WL).set (p := ⟨G1, 0, none⟩) a16 (by decide) (.int .i64 s2)).set (p := ⟨G1, 1, none⟩) (blk_set a16 0 _) (by decide) (.bool b2)).set (p := ⟨G1, 2, none⟩) (blk_set (blk_set a16 0 _) 1 _) (by decide) (.slice A2 n2 c2))) ((((Kp.refl 3 (((WL.setCell ⟨G1, 0, none⟩ (.int .i64 s2)).setCell ⟨G1, 1, none⟩ (.bool b2)).setCell ⟨G1, 2, none⟩ (.slice A2 n2 c2))).set (p := ⟨G2, 0, none⟩) E2 (by decide) (.int .i64 s3)).set (p := ⟨G2, 1, none⟩) (blk_set E2 0 _) (by decide) (.bool b3)).set (p := ⟨G2, 2, none⟩) (blk_set (blk_set E2 0 _) 1 _) (by decide) (.slice A3 n3 c3))
       refine wpU_one (n := 13) (i := 12) (by kernel_rfl) rfl (fun K9 hK9 => ?_)
       go_simp
       obtain ⟨⟨l1, l2, l3⟩, l4, l5, l6⟩ := bx3 E2
       refine hK9.out _ _ (fun _ _ => hSd _ VA) (fun _ => ?_)
       clear hK9 K9
       try simp only [Act.put, setIfInBounds_toArray, set_cons_zero, set_cons_succ]
       refine wpU_one (n := 13) (i := 13) (by kernel_rfl) rfl (fun K9 hK9 => ?_)
       go_simp
       refine hK9.out _ _ (fun _ h => absurd rfl h) (fun _ => ?_)
       clear hK9 K9
       try simp only [Act.put, setIfInBounds_toArray, set_cons_zero, set_cons_succ]
       refine wpU_done (by kernel_rfl) ?_ _
       go_wp2
       go_meet
       case rel => exact ⟨_, ⟨s2, b2, A2, n2, c2⟩, rfl, E3, tZ, lba16, VB⟩
     case rest =>
      obtain ⟨g16, u, rfl, a16, tu, lb16, HBc⟩ := hcut
      replace a13 := blk_below a13 HBc
      replace a15 := blk_below a15 HBc
      replace a8 := blk_below a8 HBc
      replace ar := blk_below ar HBc
      replace ai := blk_below ai HBc
      replace tg := tg.below HBc
      replace tg' := RV.below tg' HBc
      replace tz := RV.below tz HBc
      replace tyn := RV.below tyn HBc
      replace tr := tr.below HBc
      replace tr' := RV.below tr' HBc
      replace B0 := bl_then B0 HBc
      have p1 := ((cells_below HBc).1 _ _ lgx).trans p1
      have p2 := ((cells_below HBc).1 _ _ lgx).trans p2
      have p3 := ((cells_below HBc).1 _ _ lgx).trans p3
      replace lgx := Nat.lt_of_lt_of_le lgx HBc.size
      clear HBc tyd p4 p5 p6
      generalize wc = W6 at *
      go_upto_region 13 with (fail)
      have hSd : ∀ W, Below W6.heap.size W6 W → (W.cell? ⟨g13, 0, none⟩ = some (Value.slice A9 n c9) ∧ W.cell? ⟨g13, 1, none⟩ = some (Value.int .i64 x9.s) ∧ W.cell? ⟨g13, 2, none⟩ = some (Value.bool x9.g) ∧ W.cell? ⟨g13, 3, none⟩ = some (Value.slice x9.A x9.n x9.c)) ∧ (W.cell? ⟨g15, 0, none⟩ = some (Value.slice Ay n cy) ∧ W.cell? ⟨g15, 1, none⟩ = some (Value.int .i64 xy.s) ∧ W.cell? ⟨g15, 2, none⟩ = some (Value.bool xy.g) ∧ W.cell? ⟨g15, 3, none⟩ = some (Value.slice xy.A xy.n xy.c)) ∧ (W.cell? ⟨g16, 0, none⟩ = some (Value.int .i64 u.s) ∧ W.cell? ⟨g16, 1, none⟩ = some (Value.bool u.g) ∧ W.cell? ⟨g16, 2, none⟩ = some (Value.slice u.A u.n u.c)) ∧ W.cell? ⟨gx, kk * 6, none⟩ = some (Value.int .i64 y.s) ∧ W.cell? ⟨gx, kk * 6 + 1, none⟩ = some (Value.bool y.g) ∧ W.cell? ⟨gx, kk * 6 + 2, none⟩ = some (Value.slice y.A y.n y.c) := fun W hB => And.intro (qxr4 (blk_below a13 hB)) (And.intro (qxr4 (blk_below a15 hB)) (And.intro (cx3 (blk_below a16 hB)) ⟨((cells_below hB).1 _ _ lgx).trans p1, ((cells_below hB).1 _ _ lgx).trans p2, ((cells_below hB).1 _ _ lgx).trans p3⟩))
      have VD : Below W6.heap.size W6 W6.drew := bl_drew (Below.refl _ _)
      have hS0 := hSd _ VD
      refine wp_region_U (n := 11) (fun W => (W.cell? ⟨g13, 0, none⟩ = some (Value.slice A9 n c9) ∧ W.cell? ⟨g13, 1, none⟩ = some (Value.int .i64 x9.s) ∧ W.cell? ⟨g13, 2, none⟩ = some (Value.bool x9.g) ∧ W.cell? ⟨g13, 3, none⟩ = some (Value.slice x9.A x9.n x9.c)) ∧ (W.cell? ⟨g15, 0, none⟩ = some (Value.slice Ay n cy) ∧ W.cell? ⟨g15, 1, none⟩ = some (Value.int .i64 xy.s) ∧ W.cell? ⟨g15, 2, none⟩ = some (Value.bool xy.g) ∧ W.cell? ⟨g15, 3, none⟩ = some (Value.slice xy.A xy.n xy.c)) ∧ (W.cell? ⟨g16, 0, none⟩ = some (Value.int .i64 u.s) ∧ W.cell? ⟨g16, 1, none⟩ = some (Value.bool u.g) ∧ W.cell? ⟨g16, 2, none⟩ = some (Value.slice u.A u.n u.c)) ∧ W.cell? ⟨gx, kk * 6, none⟩ = some (Value.int .i64 y.s) ∧ W.cell? ⟨gx, kk * 6 + 1, none⟩ = some (Value.bool y.g) ∧ W.cell? ⟨gx, kk * 6 + 2, none⟩ = some (Value.slice y.A y.n y.c)) (by kernel_rfl) ?_
      refine wpU_take (n := 11) (i := 0) (v := ?_) (by decide) (by kernel_rfl) rfl (by kernel_rfl) (by kernel_rfl) (by kernel_rfl) (fun _ _ _ h => h) (by kernel_rfl) (Or.inl ⟨by rfl, ?_⟩) hS0 ?_
      rotate_left
      ·intro w' hSw
       (try dsimp only at hSw)
       go_simp
       (try with_reducible rfl)
      try simp only [Act.put, setIfInBounds_toArray, set_cons_zero, set_cons_succ]
      refine wpU_take (n := 11) (i := 1) (v := ?_) (by decide) (by kernel_rfl) rfl (by kernel_rfl) (by kernel_rfl) (by kernel_rfl) (fun _ _ _ h => h) (by kernel_rfl) (Or.inl ⟨by rfl, ?_⟩) hS0 ?_
      rotate_left
      ·intro w' hSw
       (try dsimp only at hSw)
       go_simp
       (try with_reducible rfl)
      try simp only [Act.put, setIfInBounds_toArray, set_cons_zero, set_cons_succ]
      refine wpU_take (n := 11) (i := 2) (v := ?_) (by decide) (by kernel_rfl) rfl (by kernel_rfl) (by kernel_rfl) (by kernel_rfl) (fun _ _ _ h => h) (by kernel_rfl) (Or.inl ⟨by rfl, ?_⟩) hS0 ?_
      rotate_left
      ·intro w' hSw
       (try dsimp only at hSw)
       go_simp
       (try with_reducible rfl)
      try simp only [Act.put, setIfInBounds_toArray, set_cons_zero, set_cons_succ]
      refine wpU_take (n := 11) (i := 3) (v := ?_) (by decide) (by kernel_rfl) rfl (by kernel_rfl) (by kernel_rfl) (by kernel_rfl) (fun _ _ _ h => h) (by kernel_rfl) (Or.inl ⟨by rfl, ?_⟩) hS0 ?_
      rotate_left
      ·intro w' hSw
       (try dsimp only at hSw)
       go_simp
       (try with_reducible rfl)
      try simp only [Act.put, setIfInBounds_toArray, set_cons_zero, set_cons_succ]
      refine wpU_take (n := 11) (i := 4) (v := ?_) (by decide) (by kernel_rfl) rfl (by kernel_rfl) (by kernel_rfl) (by kernel_rfl) (fun _ _ _ h => h) (by kernel_rfl) (Or.inl ⟨by rfl, ?_⟩) hS0 ?_
      rotate_left
      ·intro w' hSw
       (try dsimp only at hSw)
       go_simp
       (try with_reducible rfl)
      try simp only [Act.put, setIfInBounds_toArray, set_cons_zero, set_cons_succ]
      refine wpU_take (n := 11) (i := 5) (v := ?_) (by decide) (by kernel_rfl) rfl (by kernel_rfl) (by kernel_rfl) (by kernel_rfl) (fun _ _ _ h => h) (by kernel_rfl) (Or.inl ⟨by rfl, ?_⟩) hS0 ?_
      rotate_left
      ·intro w' hSw
       (try dsimp only at hSw)
       go_simp
       (try with_reducible rfl)
      try simp only [Act.put, setIfInBounds_toArray, set_cons_zero, set_cons_succ]
      refine wpU_take (n := 11) (i := 6) (v := ?_) (by decide) (by kernel_rfl) rfl (by kernel_rfl) (by kernel_rfl) (by kernel_rfl) (fun _ _ _ h => h) (by kernel_rfl) (Or.inl ⟨by rfl, ?_⟩) hS0 ?_
      rotate_left
      ·intro w' hSw
       (try dsimp only at hSw)
       go_simp
       (try with_reducible rfl)
      try simp only [Act.put, setIfInBounds_toArray, set_cons_zero, set_cons_succ]
      refine wpU_take (n := 11) (i := 7) (v := ?_) (by decide) (by kernel_rfl) rfl (by kernel_rfl) (by kernel_rfl) (by kernel_rfl) (fun _ _ _ h => h) (by kernel_rfl) (Or.inl ⟨by rfl, ?_⟩) hS0 ?_
      rotate_left
      ·intro w' hSw
       (try dsimp only at hSw)
       go_simp
       (try with_reducible rfl)
      try simp only [Act.put, setIfInBounds_toArray, set_cons_zero, set_cons_succ]
      refine wpU_one (n := 11) (i := 8) (by kernel_rfl) rfl (fun K9 hK9 => ?_)
      go_simp
      refine (rtimes_calls y.s y.g y.A y.n y.c qn u.s u.g u.A u.n u.c (KK.tdiv qd) _ (RV.kp tyn (Kp.below VD)) (RV.kp tu (Kp.below VD)) 8000 HQN1.out HQT.out (by omega)).mono ?_
      rintro e y1 ⟨⟨s1, b1, A1, n1, c1, rfl, t1⟩, hB1⟩
      have V1 := bl_then VD hB1
      obtain ⟨j1, rfl, rfl, rfl, rfl, rfl, tj1⟩ := jc_mk t1
      refine hK9.out _ _ (fun _ _ => hSd _ V1) (fun _ => ?_)
      clear hK9 K9
      try simp only [Act.put, setIfInBounds_toArray, set_cons_zero, set_cons_succ]
      refine wpU_one (n := 11) (i := 9) (by kernel_rfl) rfl (fun K9 hK9 => ?_)
      go_simp
      refine (r2times_calls Ay n cy xy f1.1 f1.2 j1 (qn * KK.tdiv qd) _ (tr.1.below V1) (RV.kp tr' (Kp.below V1)) tj1 (by omega) 17000 HFZ.out.1 HFZ.out.2 HPZ.out (by omega)).mono ?_
      rintro e y2 ⟨⟨A2, c2, x2, rfl, t2, t2'⟩, hB2⟩
      have V2 := bl_then V1 hB2
      refine hK9.out _ _ (fun _ _ => hSd _ V2) (fun _ => ?_)
      clear hK9 K9
      try simp only [Act.put, setIfInBounds_toArray, set_cons_zero, set_cons_succ]
      refine wpU_one (n := 11) (i := 10) (by kernel_rfl) rfl (fun K9 hK9 => ?_)
      go_simp
      refine (r2plus_calls A9 n c9 x9 gk.1 gk.2 A2 c2 x2 (f1.1.map (· * (qn * KK.tdiv qd))) (f1.2 * (qn * KK.tdiv qd)) _ (tg.1.below V2) (RV.kp tg' (Kp.below V2)) t2.1 t2' (by omega) 20000 HGZ.out.1 HGZ.out.2 HTZ.out.1 HTZ.out.2 (by omega)).mono ?_
      rintro e y3 ⟨⟨A3, c3, x3, rfl, t3, t3'⟩, hB3⟩
      have V3 := bl_then V2 hB3
      have a13_3 := blk_below a13 V3
      obtain ⟨f1_1, f1_2, f1_3, f1_4, f1_5, f1_6, f1_7, f1_8⟩ := q4c a13_3
      refine hK9.out _ _ (fun _ _ => hSd _ V3) (fun _ => ?_)
      clear hK9 K9
      try simp only [Act.put, setIfInBounds_toArray, set_cons_zero, set_cons_succ]
      refine wpU_one (n := 11) (i := 11) (by kernel_rfl) rfl (fun K9 hK9 => ?_)
      go_simp
      refine hK9.out _ _ (fun _ h => absurd rfl h) (fun _ => ?_)
      clear hK9 K9
      try simp only [Act.put, setIfInBounds_toArray, set_cons_zero, set_cons_succ]
      refine wpU_done (by kernel_rfl) ?_ _
      have U1 := blk_set4 a13_3 (.slice A3 n c3) (.int .i64 x3.s) (.bool x3.g) (.slice x3.A x3.n x3.c)
      have kpr : ∀ t, 60 ≠ t → Kp t _ _ := fun t ht => q4kp a13_3 ht (.slice A3 n c3) (.int .i64 x3.s) (.bool x3.g) (.slice x3.A x3.n x3.c)
      have U2 := t3.kp (kpr _ (by decide)) (kpr _ (by decide))
      have U3 := RV.kp t3' (kpr _ (by decide))
      have U4 := q4_far (i1 := 0) (i2 := 1) (i3 := 2) (i4 := 3) (blk_below a8 V3) (show g8 ≠ g13 by omega) (.slice A3 n c3) (.int .i64 x3.s) (.bool x3.g) (.slice x3.A x3.n x3.c)
      have U5 := RV.kp (RV.below tz V3) (kpr _ (by decide))
      have U6 := q4_far (i1 := 0) (i2 := 1) (i3 := 2) (i4 := 3) (blk_below ar V3) (show w.heap.size ≠ g13 by omega) (.slice A3 n c3) (.int .i64 x3.s) (.bool x3.g) (.slice x3.A x3.n x3.c)
      have U7 := q4_far (i1 := 0) (i2 := 1) (i3 := 2) (i4 := 3) (blk_below ai V3) (show w.heap.size + 1 ≠ g13 by omega) (.slice A3 n c3) (.int .i64 x3.s) (.bool x3.g) (.slice x3.A x3.n x3.c)
      have U8 := q4_bl (i1 := 0) (i2 := 1) (i3 := 2) (i4 := 3) (bl_then B0 V3) (show w.heap.size ≤ g13 by omega) (.slice A3 n c3) (.int .i64 x3.s) (.bool x3.g) (.slice x3.A x3.n x3.c)
      rw [HNX.out.1] at U2
      rw [HNX.out.2] at U3
      have HX := Lib.hid (And.intro U1 (And.intro U2 (And.intro U3 (And.intro U4 (And.intro U5 (And.intro U6 (And.intro U7 U8)))))))
      clear U1 U2 U3 U4 U5 U6 U7 U8 kpr
      go_wp2
      go_roundw
      case rel => exact ⟨kk + 1, A3, c3, x3, hlt, by go_num, HX.out.1, HX.out.2.1, HX.out.2.2.1, HX.out.2.2.2.1, HX.out.2.2.2.2.1, HX.out.2.2.2.2.2.1, HX.out.2.2.2.2.2.2.1, HX.out.2.2.2.2.2.2.2⟩
      case measure => simp [intOf]; omega
    ·have e : m = kk := by omega
     subst e
     have HGM : Hid ((∀ j, Sz 20000 ((G m).1.getD j 0)) ∧ Sz 20000 (G m).2) := Lib.hid ⟨fun j => ((HGS.out m (Nat.le_refl m)).1 j).mono (by omega), (HGS.out m (Nat.le_refl m)).2.mono (by omega)⟩
     have HDZ : Hid (Sz 20000 (dK (G m).1 (G m).2 n)) := Lib.hid (dK_sz HGM.out.1 HGM.out.2 n)
     have HK2 : Hid (Sz 20000 KK) := Lib.hid (HK0.out.mono (by omega))
     have HDD : Hid (Sz 20000 (gcZ n (G m) KK)) := Lib.hid (HDZ.out.gcd HK2.out)
     generalize G m = gk at *
     clear HGS HGN HG0 HK0
     go_upto_region 15 with (fail)
     generalize wr = W8 at *
     go_cut [18] (fun p wc => ∃ (g18 : Nat) (u : JC), p = .pointer (some ⟨g18, 0, none⟩) ∧ wc.heap[g18]? = some (.cells #[.int .i64 u.s, .bool u.g, .slice u.A u.n u.c] 49 (0, 0)) ∧ RV wc u.s u.g u.A u.n u.c (gcZ n gk KK) ∧ W8.heap.size ≤ g18 ∧ Below W8.heap.size W8 wc)
     case first =>
      have hSd : ∀ W, Below W8.heap.size W8 W → (W.cell? ⟨g13, 0, none⟩ = some (Value.slice A9 n c9) ∧ W.cell? ⟨g13, 1, none⟩ = some (Value.int .i64 x9.s) ∧ W.cell? ⟨g13, 2, none⟩ = some (Value.bool x9.g) ∧ W.cell? ⟨g13, 3, none⟩ = some (Value.slice x9.A x9.n x9.c)) ∧ W.cell? ⟨g8, 0, none⟩ = some (Value.int .i64 z.s) ∧ W.cell? ⟨g8, 1, none⟩ = some (Value.bool z.g) ∧ W.cell? ⟨g8, 2, none⟩ = some (Value.slice z.A z.n z.c) := fun W hB => And.intro (qxr4 (blk_below a13 hB)) (cx3 (blk_below a8 hB))
      have VD : Below W8.heap.size W8 W8.drew := bl_drew (Below.refl _ _)
      have hS0 := hSd _ VD
      refine wp_region_U (n := 5) (fun W => (W.cell? ⟨g13, 0, none⟩ = some (Value.slice A9 n c9) ∧ W.cell? ⟨g13, 1, none⟩ = some (Value.int .i64 x9.s) ∧ W.cell? ⟨g13, 2, none⟩ = some (Value.bool x9.g) ∧ W.cell? ⟨g13, 3, none⟩ = some (Value.slice x9.A x9.n x9.c)) ∧ W.cell? ⟨g8, 0, none⟩ = some (Value.int .i64 z.s) ∧ W.cell? ⟨g8, 1, none⟩ = some (Value.bool z.g) ∧ W.cell? ⟨g8, 2, none⟩ = some (Value.slice z.A z.n z.c)) (by kernel_rfl) ?_
      refine wpU_take (n := 5) (i := 0) (v := ?_) (by decide) (by kernel_rfl) rfl (by kernel_rfl) (by kernel_rfl) (by kernel_rfl) (fun _ _ _ h => h) (by kernel_rfl) (Or.inl ⟨by rfl, ?_⟩) hS0 ?_
      rotate_left
      ·intro w' hSw
       (try dsimp only at hSw)
       go_simp
       (try with_reducible rfl)
      try simp only [Act.put, setIfInBounds_toArray, set_cons_zero, set_cons_succ]
      refine wpU_take (n := 5) (i := 2) (v := ?_) (by decide) (by kernel_rfl) rfl (by kernel_rfl) (by kernel_rfl) (by kernel_rfl) (fun _ _ _ h => h) (by kernel_rfl) (Or.inl ⟨by rfl, ?_⟩) hS0 ?_
      rotate_left
      ·intro w' hSw
       (try dsimp only at hSw)
       go_simp
       (try with_reducible rfl)
      try simp only [Act.put, setIfInBounds_toArray, set_cons_zero, set_cons_succ]
      refine wpU_two (n := 5) (i := 1) (k := 4) (by kernel_rfl) rfl rfl (fun K9 hK9 => ?zA34) (fun K9 hK9 => ?zB34)
      case' zA34 =>
       go_simp
       refine (r2divk_calls A9 n c9 x9 gk.1 gk.2 _ (tg.1.below VD) (RV.kp tg' (Kp.below VD)) (by omega) 20000 HGM.out.1 HGM.out.2 (by omega)).mono ?_
       rintro e y1 ⟨⟨s1, b1, A1, n1, c1, rfl, t1⟩, hBy1⟩
       have V1 : Below W8.heap.size W8 y1 := bl_then VD hBy1
       refine hK9.out _ _ (fun _ _ => hSd _ V1) (fun _ => ?_)
       clear hK9 K9
       try simp only [Act.put, setIfInBounds_toArray, set_cons_zero, set_cons_succ]
       refine wpU_two (n := 5) (i := 3) (k := 4) (by kernel_rfl) rfl rfl (fun K9 hK9 => ?zA35) (fun K9 hK9 => ?zB35)
       case' zA35 =>
        go_simp
        refine (rigcd_calls s1 b1 A1 n1 c1 (dK gk.1 gk.2 n) z.s z.g z.A z.n z.c KK _ t1 (RV.kp tz (Kp.below V1)) 20000 HDZ.out HK2.out (by omega)).mono ?_
        rintro e y2 ⟨⟨s2, b2, A2, n2, c2, rfl, t2⟩, hBy2⟩
        have V2 : Below W8.heap.size W8 y2 := bl_then V1 hBy2
        replace t1 := RV.below t1 hBy2
        refine hK9.out _ _ (fun _ _ => hSd _ V2) (fun _ => ?_)
        clear hK9 K9
        try simp only [Act.put, setIfInBounds_toArray, set_cons_zero, set_cons_succ]

        refine wpU_one (n := 5) (i := 4) (by kernel_rfl) rfl (fun K9 hK9 => ?_)
        go_simp
        have V3 : Below W8.heap.size W8 (y2.alloc (.cells #[.int .i64 0, .bool false, .slice none 0 0] 49)) := bl_alloc V2 _
        replace t1 := RV.al2 t1 (.cells #[.int .i64 0, .bool false, .slice none 0 0] 49)
        replace t2 := RV.al2 t2 (.cells #[.int .i64 0, .bool false, .slice none 0 0] 49)
        have a18 : (y2.alloc (.cells #[.int .i64 0, .bool false, .slice none 0 0] 49)).heap[y2.heap.size]? = some (.cells #[.int .i64 0, .bool false, .slice none 0 0] 49 (0, 0)) := blk_at _ (by simp)
        have lba18 : W8.heap.size ≤ y2.heap.size := by have := V2.size; (try simp at this); omega
        refine hK9.out _ _ (fun _ _ => hSd _ V3) (fun _ => ?_)
        clear hK9 K9
        try simp only [Act.put, setIfInBounds_toArray, set_cons_zero, set_cons_succ]
        generalize (y2.alloc (.cells #[.int .i64 0, .bool false, .slice none 0 0] 49)) = WL at *
        obtain ⟨⟨k1, k2, k3⟩, k4, k5, k6⟩ := bx3 a18
        have E1 := blk_set3 a18 (.int .i64 s2) (.bool b2) (.slice A2 n2 c2)
        have VA := (((V3.setCell (p := ⟨y2.heap.size, 0, none⟩) lba18 (.int .i64 s2)).setCell (p := ⟨y2.heap.size, 1, none⟩) lba18 (.bool b2)).setCell (p := ⟨y2.heap.size, 2, none⟩) lba18 (.slice A2 n2 c2))
        have tZ := RV.kp t2 ((((Kp.refl 3 WL).set (p := ⟨y2.heap.size, 0, none⟩) a18 (by decide) (.int .i64 s2)).set (p := ⟨y2.heap.size, 1, none⟩) (blk_set a18 0 _) (by decide) (.bool b2)).set (p := ⟨y2.heap.size, 2, none⟩) (blk_set (blk_set a18 0 _) 1 _) (by decide) (.slice A2 n2 c2))
        refine wpU_one (n := 5) (i := 5) (by kernel_rfl) rfl (fun K9 hK9 => ?_)
        go_simp
        refine hK9.out _ _ (fun _ h => absurd rfl h) (fun _ => ?_)
        clear hK9 K9
        try simp only [Act.put, setIfInBounds_toArray, set_cons_zero, set_cons_succ]
        refine wpU_done (by kernel_rfl) ?_ _
        go_wp2
        go_meet
        case rel => exact ⟨_, ⟨s2, b2, A2, n2, c2⟩, rfl, E1, tZ, lba18, VA⟩
       case' zB35 =>
        go_simp
        have V2 : Below W8.heap.size W8 (y1.alloc (.cells #[.int .i64 0, .bool false, .slice none 0 0] 49)) := bl_alloc V1 _
        replace t1 := RV.al2 t1 (.cells #[.int .i64 0, .bool false, .slice none 0 0] 49)
        have a18 : (y1.alloc (.cells #[.int .i64 0, .bool false, .slice none 0 0] 49)).heap[y1.heap.size]? = some (.cells #[.int .i64 0, .bool false, .slice none 0 0] 49 (0, 0)) := blk_at _ (by simp)
        have lba18 : W8.heap.size ≤ y1.heap.size := by have := V1.size; (try simp at this); omega
        refine hK9.out _ _ (fun _ _ => hSd _ V2) (fun _ => ?_)
        clear hK9 K9
        try simp only [Act.put, setIfInBounds_toArray, set_cons_zero, set_cons_succ]
        refine wpU_one (n := 5) (i := 3) (by kernel_rfl) rfl (fun K9 hK9 => ?_)
        go_simp
        refine (rigcd_calls s1 b1 A1 n1 c1 (dK gk.1 gk.2 n) z.s z.g z.A z.n z.c KK _ t1 (RV.kp tz (Kp.below V2)) 20000 HDZ.out HK2.out (by omega)).mono ?_
        rintro e y2 ⟨⟨s2, b2, A2, n2, c2, rfl, t2⟩, hBy2⟩
        have V3 : Below W8.heap.size W8 y2 := bl_then V2 hBy2
        replace t1 := RV.below t1 hBy2
        replace a18 := blk_below a18 hBy2
        refine hK9.out _ _ (fun _ _ => hSd _ V3) (fun _ => ?_)
        clear hK9 K9
        try simp only [Act.put, setIfInBounds_toArray, set_cons_zero, set_cons_succ]

        generalize y2 = WL at *
        obtain ⟨⟨k1, k2, k3⟩, k4, k5, k6⟩ := bx3 a18
        have E1 := blk_set3 a18 (.int .i64 s2) (.bool b2) (.slice A2 n2 c2)
        have VA := (((V3.setCell (p := ⟨y1.heap.size, 0, none⟩) lba18 (.int .i64 s2)).setCell (p := ⟨y1.heap.size, 1, none⟩) lba18 (.bool b2)).setCell (p := ⟨y1.heap.size, 2, none⟩) lba18 (.slice A2 n2 c2))
        have tZ := RV.kp t2 ((((Kp.refl 3 WL).set (p := ⟨y1.heap.size, 0, none⟩) a18 (by decide) (.int .i64 s2)).set (p := ⟨y1.heap.size, 1, none⟩) (blk_set a18 0 _) (by decide) (.bool b2)).set (p := ⟨y1.heap.size, 2, none⟩) (blk_set (blk_set a18 0 _) 1 _) (by decide) (.slice A2 n2 c2))
        refine wpU_one (n := 5) (i := 5) (by kernel_rfl) rfl (fun K9 hK9 => ?_)
        go_simp
        refine hK9.out _ _ (fun _ h => absurd rfl h) (fun _ => ?_)
        clear hK9 K9
        try simp only [Act.put, setIfInBounds_toArray, set_cons_zero, set_cons_succ]
        refine wpU_done (by kernel_rfl) ?_ _
        go_wp2
        go_meet
        case rel => exact ⟨_, ⟨s2, b2, A2, n2, c2⟩, rfl, E1, tZ, lba18, VA⟩
      case' zB34 =>
       go_simp
       have V1 : Below W8.heap.size W8 (W8.drew.alloc (.cells #[.int .i64 0, .bool false, .slice none 0 0] 49)) := bl_alloc VD _
       have a18 : (W8.drew.alloc (.cells #[.int .i64 0, .bool false, .slice none 0 0] 49)).heap[W8.heap.size]? = some (.cells #[.int .i64 0, .bool false, .slice none 0 0] 49 (0, 0)) := blk_at _ (by simp)
       have lba18 : W8.heap.size ≤ W8.heap.size := by have := VD.size; (try simp at this); omega
       refine hK9.out _ _ (fun _ _ => hSd _ V1) (fun _ => ?_)
       clear hK9 K9
       try simp only [Act.put, setIfInBounds_toArray, set_cons_zero, set_cons_succ]
       refine wpU_one (n := 5) (i := 1) (by kernel_rfl) rfl (fun K9 hK9 => ?_)
       go_simp
       refine (r2divk_calls A9 n c9 x9 gk.1 gk.2 _ (tg.1.below V1) (RV.kp tg' (Kp.below V1)) (by omega) 20000 HGM.out.1 HGM.out.2 (by omega)).mono ?_
       rintro e y1 ⟨⟨s1, b1, A1, n1, c1, rfl, t1⟩, hBy1⟩
       have V2 : Below W8.heap.size W8 y1 := bl_then V1 hBy1
       replace a18 := blk_below a18 hBy1
       refine hK9.out _ _ (fun _ _ => hSd _ V2) (fun _ => ?_)
       clear hK9 K9
       try simp only [Act.put, setIfInBounds_toArray, set_cons_zero, set_cons_succ]
       refine wpU_one (n := 5) (i := 3) (by kernel_rfl) rfl (fun K9 hK9 => ?_)
       go_simp
       refine (rigcd_calls s1 b1 A1 n1 c1 (dK gk.1 gk.2 n) z.s z.g z.A z.n z.c KK _ t1 (RV.kp tz (Kp.below V2)) 20000 HDZ.out HK2.out (by omega)).mono ?_
       rintro e y2 ⟨⟨s2, b2, A2, n2, c2, rfl, t2⟩, hBy2⟩
       have V3 : Below W8.heap.size W8 y2 := bl_then V2 hBy2
       replace a18 := blk_below a18 hBy2
       replace t1 := RV.below t1 hBy2
       refine hK9.out _ _ (fun _ _ => hSd _ V3) (fun _ => ?_)
       clear hK9 K9
       try simp only [Act.put, setIfInBounds_toArray, set_cons_zero, set_cons_succ]

       generalize y2 = WL at *
       obtain ⟨⟨k1, k2, k3⟩, k4, k5, k6⟩ := bx3 a18
       have E1 := blk_set3 a18 (.int .i64 s2) (.bool b2) (.slice A2 n2 c2)
       have VA := (((V3.setCell (p := ⟨W8.heap.size, 0, none⟩) lba18 (.int .i64 s2)).setCell (p := ⟨W8.heap.size, 1, none⟩) lba18 (.bool b2)).setCell (p := ⟨W8.heap.size, 2, none⟩) lba18 (.slice A2 n2 c2))
       have tZ := RV.kp t2 ((((Kp.refl 3 WL).set (p := ⟨W8.heap.size, 0, none⟩) a18 (by decide) (.int .i64 s2)).set (p := ⟨W8.heap.size, 1, none⟩) (blk_set a18 0 _) (by decide) (.bool b2)).set (p := ⟨W8.heap.size, 2, none⟩) (blk_set (blk_set a18 0 _) 1 _) (by decide) (.slice A2 n2 c2))
       refine wpU_one (n := 5) (i := 5) (by kernel_rfl) rfl (fun K9 hK9 => ?_)
       go_simp
       refine hK9.out _ _ (fun _ h => absurd rfl h) (fun _ => ?_)
       clear hK9 K9
       try simp only [Act.put, setIfInBounds_toArray, set_cons_zero, set_cons_succ]
       refine wpU_done (by kernel_rfl) ?_ _
       go_wp2
       go_meet
       case rel => exact ⟨_, ⟨s2, b2, A2, n2, c2⟩, rfl, E1, tZ, lba18, VA⟩
     case rest =>
      obtain ⟨g18, u, rfl, ad, tu, lb18, HBc⟩ := hcut
      have h1318 : g13 < W8.heap.size := blk_lt a13
      replace a13 := blk_below a13 HBc
      replace a8 := blk_below a8 HBc
      replace ar := blk_below ar HBc
      replace ai := blk_below ai HBc
      replace tg := tg.below HBc
      replace tg' := RV.below tg' HBc
      replace tz := RV.below tz HBc
      replace B0 := bl_then B0 HBc
      clear HBc lb18
      generalize wc = W9 at *
      have hdn : gcZ n gk KK ≠ 0 := by have := HGP.out; omega
      have HDN := Lib.hid hdn
      clear hdn
      generalize gcZ n gk KK = dd at *
      have h819 : g8 < W9.heap.size := blk_lt a8
      have h1819 : g18 < W9.heap.size := blk_lt ad
      have h1319 : g13 < W9.heap.size := blk_lt a13
      have hw19 : w.heap.size + 1 < W9.heap.size := blk_lt ai
      have BZ : Below W9.heap.size W9 (W9.alloc (.cells #[.slice none 0 0, .int .i64 0, .bool false, .slice none 0 0] 60)) := bl_alloc (Below.refl _ _) _
      replace a13 := blk_below a13 BZ
      replace a8 := blk_below a8 BZ
      replace ad := blk_below ad BZ
      replace ar := blk_below ar BZ
      replace ai := blk_below ai BZ
      replace tg := tg.below BZ
      replace tg' := RV.below tg' BZ
      replace tz := RV.below tz BZ
      replace tu := RV.below tu BZ
      replace B0 := bl_then B0 BZ
      have ao : (W9.alloc (.cells #[.slice none 0 0, .int .i64 0, .bool false, .slice none 0 0] 60)).heap[W9.heap.size]? = some (.cells #[.slice none 0 0, .int .i64 0, .bool false, .slice none 0 0] 60 (0, 0)) := blk_at _ rfl
      obtain ⟨f1, f2, f3, f4, f5⟩ := q4c a13
      obtain ⟨⟨k1, k2, k3⟩, k4⟩ := bx3 ad
      clear BZ
      go_wp2_with fail
      refine (rover_calls x9.s x9.g x9.A x9.n x9.c gk.2 u.s u.g u.A u.n u.c dd _ tg' tu 20000 HGM.out.2 HDD.out (by omega) HDN.out).mono ?_
      rintro e w5 ⟨⟨s5, b5, A5, n5, c5, s5', b5', A5', n5', c5', rfl, t5, t5'⟩, hB5⟩
      obtain ⟨v, rfl, rfl, rfl, rfl, rfl, hv⟩ := jc_mk t5
      replace a13 := blk_below a13 hB5
      replace a8 := blk_below a8 hB5
      replace ad := blk_below ad hB5
      replace ar := blk_below ar hB5
      replace ai := blk_below ai hB5
      replace ao := blk_below ao hB5
      replace tg := tg.below hB5
      replace tz := RV.below tz hB5
      replace tu := RV.below tu hB5
      replace B0 := bl_then B0 hB5
      clear f1 f2 f3 f4 f5 k1 k2 k3 k4 t5 t5' hB5 tg'
      obtain ⟨m1, m2, m3, m4, m5, m6, m7, m8⟩ := q4c ao
      have kpr : ∀ t, 60 ≠ t → Kp t w5 (((w5.setCell ⟨W9.heap.size, 1, none⟩ (.int .i64 v.s)).setCell ⟨W9.heap.size, 2, none⟩ (.bool v.g)).setCell ⟨W9.heap.size, 3, none⟩ (.slice v.A v.n v.c)) := fun t ht => r4kp ao ht _ _ _
      have far : ∀ {k : Nat} {o : Obj}, w5.heap[k]? = some o → k ≠ W9.heap.size → (((w5.setCell ⟨W9.heap.size, 1, none⟩ (.int .i64 v.s)).setCell ⟨W9.heap.size, 2, none⟩ (.bool v.g)).setCell ⟨W9.heap.size, 3, none⟩ (.slice v.A v.n v.c)).heap[k]? = some o := fun h hk => blk_far (blk_far (blk_far h hk) hk) hk
      have U1 : (((w5.setCell ⟨W9.heap.size, 1, none⟩ (.int .i64 v.s)).setCell ⟨W9.heap.size, 2, none⟩ (.bool v.g)).setCell ⟨W9.heap.size, 3, none⟩ (.slice v.A v.n v.c)).heap[W9.heap.size]? = some (.cells #[.slice none 0 0, .int .i64 v.s, .bool v.g, .slice v.A v.n v.c] 60 (0, 0)) := blk_set (blk_set (blk_set ao 1 _) 2 _) 3 _
      have U2 := far a13 (by omega)
      have U3 := far a8 (by omega)
      have U4 := far ad (by omega)
      have U5 := far ar (by omega)
      have U6 := far ai (by omega)
      have U7 := tg.kp (kpr _ (by decide)) (kpr _ (by decide))
      have U8 := RV.kp tz (kpr _ (by decide))
      have U9 := RV.kp tu (kpr _ (by decide))
      have U10 := RV.kp hv (kpr _ (by decide))
      have U11 := ((B0.setCell (p := ⟨W9.heap.size, 1, none⟩) (by show w.heap.size ≤ W9.heap.size; omega) (.int .i64 v.s)).setCell (p := ⟨W9.heap.size, 2, none⟩) (by show w.heap.size ≤ W9.heap.size; omega) (.bool v.g)).setCell (p := ⟨W9.heap.size, 3, none⟩) (by show w.heap.size ≤ W9.heap.size; omega) (.slice v.A v.n v.c)
      clear a13 a8 ad ar ai ao tg tz tu hv B0 kpr far
      go_upto_region 18 with (fail)
      clear m1 m2 m3 m4 m5 m6 m7 m8
      generalize ((w5.setCell ⟨W9.heap.size, 1, none⟩ (.int .i64 v.s)).setCell ⟨W9.heap.size, 2, none⟩ (.bool v.g)).setCell ⟨W9.heap.size, 3, none⟩ (.slice v.A v.n v.c) = W10 at *
      generalize W9.heap.size = g19 at *
      obtain ⟨bs, hbs⟩ : ∃ bs, bs = W10.heap.size := ⟨_, rfl⟩
      have hb19 : g19 < bs := by rw [hbs]; exact blk_lt U1
      have HU1 := Lib.hid U1
      have HU3 := Lib.hid U3
      have HU4 := Lib.hid U4
      have HU5 := Lib.hid U5
      have HU6 := Lib.hid U6
      have HU7 := Lib.hid U7
      have HU8 := Lib.hid U8
      have HU9 := Lib.hid U9
      have HU10 := Lib.hid U10
      have HU11 := Lib.hid U11
      have HGL : Hid (gk.1.length = n) := Lib.hid U7.1.1
      have O0 := Kind.Own.nil (K := KR) W10 bs
      obtain ⟨f1, f2, f3, f4, f5⟩ := q4c U2
      go_wp2_with fail
      clear f1 f2 f3 f4 f5 U2 U3 U4 U5 U6 U7 U8 U9 U10
      go_loopw [92] (fun i wr => ∃ (kk : Nat) (vv : Value), kk ≤ n ∧ i = .int .i64 kk ∧ KR.Own wr bs vv kk ((gk.1.take kk).map (·.tdiv dd)) ∧ bs ≤ wr.heap.size ∧ wr.heap[g19]? = some (.cells #[vv, .int .i64 v.s, .bool v.g, .slice v.A v.n v.c] 60 (0, 0)) ∧ Hid (∀ g, g < bs → g ≠ g19 → wr.heap[g]? = W10.heap[g]?) ∧ Below w.heap.size w wr) (fun i _ => n - (intOf i).toNat)
      case atStart => exact ⟨0, _, Nat.zero_le _, rfl, O0, Nat.le_of_eq hbs, U1, Lib.hid fun _ _ _ => rfl, U11⟩
      case round =>
       clear O0 U1 U11
       obtain ⟨kk, vv, hkk, rfl, OW, hbz, ao, HBB, B0⟩ := hrel
       have KPT : ∀ t, 60 ≠ t → Kp t W10 wr := fun t ht => kp_but hbs HU1.out HBB.out ht
       have ad := (HBB.out g18 (by omega) (by omega)).trans HU4.out
       have tu := RV.kp HU9.out (KPT _ (by decide))
       by_cases hlt : kk < n
       ·obtain ⟨gc, rfl, lgc, hcc⟩ := (HU7.out.kp (KPT _ (by decide)) (KPT _ (by decide))).1.2.2 (by omega)
        obtain ⟨q0, ⟨p1, p2, p3⟩, hq0⟩ := hcc kk hlt
        have hq1 : RV wr q0.s q0.g q0.A q0.n q0.c (gk.1.getD kk 0) := hq0
        have HC := Lib.hid (HGM.out.1 kk)
        have HE := Lib.hid (getD_take_snoc (·.tdiv dd) gk.1 kk (by rw [HGL.out]; exact hlt))
        obtain ⟨Av, cv, rfl, _⟩ := KR.rdR OW (by omega)
        clear hcc hq0 KPT
        generalize gk.1.getD kk 0 = cz at *
        have BX : Below wr.heap.size wr (wr.alloc (.cells #[.int .i64 q0.s, .bool q0.g, .slice q0.A q0.n q0.c] 49)) := bl_alloc (Below.refl _ _) _
        replace ad := blk_below ad BX
        replace ao := blk_below ao BX
        replace tu := RV.below tu BX
        replace hq1 := RV.below hq1 BX
        replace OW := OW.below KR.ok BX
        replace B0 := bl_then B0 BX
        have HBB2 : Hid (∀ g, g < bs → g ≠ g19 → (wr.alloc (.cells #[.int .i64 q0.s, .bool q0.g, .slice q0.A q0.n q0.c] 49)).heap[g]? = W10.heap[g]?) := Lib.hid fun g h1 h2 => (BX.block g (by omega)).trans (HBB.out g h1 h2)
        have hbz1 : bs ≤ (wr.alloc (.cells #[.int .i64 q0.s, .bool q0.g, .slice q0.A q0.n q0.c] 49)).heap.size := Nat.le_trans hbz BX.size
        have hk0 : (0 : Int) ≤ (kk : Int) := by omega
        have hkn : (kk : Int) < (n : Int) := by omega
        obtain ⟨⟨f1, f2, f3⟩, f4⟩ := bx3 ad
        clear BX hbz HBB
        go_upto_region 21 with (fail)
        have a21 : (wr.alloc (.cells #[.int .i64 q0.s, .bool q0.g, .slice q0.A q0.n q0.c] 49)).heap[wr.heap.size]? = some (.cells #[.int .i64 q0.s, .bool q0.g, .slice q0.A q0.n q0.c] 49 (0, 0)) := blk_at _ rfl
        clear p1 p2 p3 lgc f1 f2 f3 f4
        generalize wr.heap.size = g21 at *
        generalize wr.alloc (.cells #[.int .i64 q0.s, .bool q0.g, .slice q0.A q0.n q0.c] 49) = W11 at *
        obtain ⟨⟨f1, f2, f3⟩, f4⟩ := bx3 ad
        obtain ⟨⟨k1, k2, k3⟩, k4⟩ := bx3 a21
        go_wp2_with fail
        refine (rover_calls q0.s q0.g q0.A q0.n q0.c cz u.s u.g u.A u.n u.c dd _ hq1 tu 20000 HC.out HDD.out (by omega) HDN.out).mono ?_
        rintro e w8 ⟨⟨s8, b8, A8, n8, c8, s9, b9, A9', n9, c9', rfl, t8, t9⟩, hB8⟩
        obtain ⟨q, rfl, rfl, rfl, rfl, rfl, hq⟩ := jc_mk t8
        clear f1 f2 f3 f4 k1 k2 k3 k4 t8 t9
        have HA := bl_alloc (bl_alloc (bl_alloc hB8 (.cells #[.int .i64 q.s, .bool q.g, .slice q.A q.n q.c] 49)) (.cells #[.int .i64 s9, .bool b9, .slice A9' n9 c9'] 49)) (.cells #[.int .i64 q.s, .bool q.g, .slice q.A q.n q.c] 49)
        have B1 := bl_then B0 HA
        have O1 := OW.below KR.ok HA
        have hbz2 := Nat.le_trans hbz1 HA.size
        have t3 : KR.Is (((w8.alloc (.cells #[.int .i64 q.s, .bool q.g, .slice q.A q.n q.c] 49)).alloc (.cells #[.int .i64 s9, .bool b9, .slice A9' n9 c9'] 49)).alloc (.cells #[.int .i64 q.s, .bool q.g, .slice q.A q.n q.c] 49)) q (cz.tdiv dd) := RV.al2 (RV.al2 (RV.al2 hq _) _) _
        obtain ⟨v', W', hrun, O2, hgr⟩ := appg1 (c := 1) (g := w8.heap.size + 1 + 1) KR.ok 58 _ 40 info_rint Tryz.underlying58 rfl (by omega) O1 q (cz.tdiv dd) _ (blk_at _ (by simp)) rfl t3 (by omega) hbz2
        rw [← HE.out] at O2
        have V2 : Below w.heap.size w W' := below_of_grown B1 hgr B1.size (fun b hb => by have := O1.ge b hb; omega)
        have ao2 := blk_grown hgr (blk_below ao HA) O1.ge hb19
        have HB3 : ∀ g, g < bs → g ≠ g19 → W'.heap[g]? = W10.heap[g]? := fun g h1 h2 => (hgr.block g (by have := HA.size; omega) (fun e => by have := O1.ge g e.symm; omega)).trans ((HA.block g (by omega)).trans (HBB2.out g h1 h2))
        have HR := Lib.hid hrun
        have hsz2 : bs ≤ W'.heap.size := Nat.le_trans hbz2 hgr.size
        obtain ⟨A7, c7, rfl, _⟩ := KR.rdR O2 (by omega)
        have kpr : ∀ t, 60 ≠ t → Kp t W' (W'.setCell ⟨g19, 0, none⟩ (.slice A7 (kk + 1) c7)) := fun t ht => (Kp.refl _ _).set (p := ⟨g19, 0, none⟩) ao2 ht _
        have X1 : (W'.setCell ⟨g19, 0, none⟩ (.slice A7 (kk + 1) c7)).heap[g19]? = some (.cells #[.slice A7 (kk + 1) c7, .int .i64 v.s, .bool v.g, .slice v.A v.n v.c] 60 (0, 0)) := blk_set ao2 0 _
        have X2 := O2.kps (kpr 49 (by decide)) (fun y r h => RV.kp h (kpr 3 (by decide)))
        have X3 : Hid (∀ g, g < bs → g ≠ g19 → (W'.setCell ⟨g19, 0, none⟩ (.slice A7 (kk + 1) c7)).heap[g]? = W10.heap[g]?) := Lib.hid fun g h1 h2 => (heap_setCell_other _ _ _ _ h2).trans (HB3 g h1 h2)
        have X4 := V2.setCell (p := ⟨g19, 0, none⟩) (by show w.heap.size ≤ g19; omega) (.slice A7 (kk + 1) c7)
        have X5 : bs ≤ (W'.setCell ⟨g19, 0, none⟩ (.slice A7 (kk + 1) c7)).heap.size := by simpa using hsz2
        obtain ⟨k1, k2, k3, k4, k5, k6, k7, k8⟩ := q4c ao2
        have f9 := (q4c (blk_alloc (blk_alloc (blk_below ao hB8) (.cells #[.int .i64 q.s, .bool q.g, .slice q.A q.n q.c] 49)) (.cells #[.int .i64 s9, .bool b9, .slice A9' n9 c9'] 49))).1
        have HX := Lib.hid (And.intro X2 (And.intro X5 (And.intro X1 X4)))
        clear X1 X2 X4 X5 kpr hrun hgr O1 O2 t3 V2 B1 HA ao2 HB3 hq ao OW B0 hsz2 hbz2 tu hq1 ad a21
        go_wp2_with (at_builtin; refine wpList_ap rfl (.tmp 103) (.tmp 105) 58 (by rfl) _ _ (by rfl) (by rfl) _ (by rfl) _ _ HR.out ?_)
        go_roundw
        case rel => exact ⟨kk + 1, _, hlt, by go_num, HX.out.1, HX.out.2.1, HX.out.2.2.1, X3, HX.out.2.2.2⟩
        case measure => simp [intOf]; omega
       ·have e : n = kk := by omega
        subst e
        have a8 := (HBB.out g8 (by omega) (by omega)).trans HU3.out
        have tz1 := RV.kp HU8.out (KPT _ (by decide))
        have tv1 := RV.kp HU10.out (KPT _ (by decide))
        have ar := (HBB.out w.heap.size (by omega) (by omega)).trans HU5.out
        have ai := (HBB.out (w.heap.size + 1) (by omega) (by omega)).trans HU6.out
        rw [List.take_of_length_le (by rw [HGL.out]; exact Nat.le_refl _)] at OW
        obtain ⟨⟨f1, f2, f3⟩, f4⟩ := bx3 a8
        obtain ⟨⟨k1, k2, k3⟩, k4⟩ := bx3 ad
        clear KPT
        go_wp2_with fail
        refine (rover_calls z.s z.g z.A z.n z.c KK u.s u.g u.A u.n u.c dd _ tz1 tu 20000 HK2.out HDD.out (by omega) HDN.out).mono ?_
        rintro e w6 ⟨⟨s6, b6, A6, n6, c6, s6', b6', A6', n6', c6', rfl, t6, t6'⟩, hB6⟩
        obtain ⟨y, rfl, rfl, rfl, rfl, rfl, hy⟩ := jc_mk t6
        replace a8 := blk_below a8 hB6
        replace ao := blk_below ao hB6
        replace ar := blk_below ar hB6
        replace ai := blk_below ai hB6
        replace tv1 := RV.below tv1 hB6
        replace OW := OW.below KR.ok hB6
        replace B0 := bl_then B0 hB6
        clear f1 f2 f3 f4 k1 k2 k3 k4 t6 t6' hB6 ad tu tz1
        obtain ⟨⟨m1, m2, m3⟩, m4, m5, m6⟩ := bx3 a8
        have kp8 : Kp 3 w6 (((w6.setCell ⟨g8, 0, none⟩ (.int .i64 y.s)).setCell ⟨g8, 1, none⟩ (.bool y.g)).setCell ⟨g8, 2, none⟩ (.slice y.A y.n y.c)) := ((((Kp.refl 3 w6).set (p := ⟨g8, 0, none⟩) a8 (by decide) (.int .i64 y.s)).set (p := ⟨g8, 1, none⟩) (blk_set a8 0 _) (by decide) (.bool y.g)).set (p := ⟨g8, 2, none⟩) (blk_set (blk_set a8 0 _) 1 _) (by decide) (.slice y.A y.n y.c))
        have U1 := blk_set3 a8 (.int .i64 y.s) (.bool y.g) (.slice y.A y.n y.c)
        have U2 := blk_far3 ao (show g19 ≠ g8 by omega) (.int .i64 y.s) (.bool y.g) (.slice y.A y.n y.c)
        have U3 := blk_far3 ar (show w.heap.size ≠ g8 by omega) (.int .i64 y.s) (.bool y.g) (.slice y.A y.n y.c)
        have U4 := blk_far3 ai (show w.heap.size + 1 ≠ g8 by omega) (.int .i64 y.s) (.bool y.g) (.slice y.A y.n y.c)
        have U5 := RV.kp tv1 kp8
        have U6 := RV.kp hy kp8
        have U7 := own_far8 OW (fun k hk => heap_set3_other w6 (show k ≠ g8 by omega) (.int .i64 y.s) (.bool y.g) (.slice y.A y.n y.c)) kp8
        have U8 := bl_set3 B0 (show w.heap.size ≤ g8 by omega) (.int .i64 y.s) (.bool y.g) (.slice y.A y.n y.c)
        clear kp8 a8 ao ar ai tv1 hy OW B0
        go_upto_region 25 with (fail)
        clear m1 m2 m3 m4 m5 m6
        generalize (((w6.setCell ⟨g8, 0, none⟩ (.int .i64 y.s)).setCell ⟨g8, 1, none⟩ (.bool y.g)).setCell ⟨g8, 2, none⟩ (.slice y.A y.n y.c)) = W12 at *
        obtain ⟨A5, c5, rfl, o⟩ := KR.rdR U7 (by omega)
        clear o
        have VD : Below W12.heap.size W12 W12.drew := bl_drew (Below.refl _ _)
        replace U1 := blk_drew U1
        replace U2 := blk_drew U2
        replace U3 := blk_drew U3
        replace U4 := blk_drew U4
        replace U5 := U5.kp (Kp.refl _ _).drew
        replace U6 := U6.kp (Kp.refl _ _).drew
        replace U7 := U7.below KR.ok VD
        replace U8 := bl_drew U8
        have hS0 : (W12.drew.cell? ⟨g19, 0, none⟩ = some (Value.slice A5 n c5) ∧ W12.drew.cell? ⟨g19, 1, none⟩ = some (Value.int .i64 v.s) ∧ W12.drew.cell? ⟨g19, 2, none⟩ = some (Value.bool v.g) ∧ W12.drew.cell? ⟨g19, 3, none⟩ = some (Value.slice v.A v.n v.c)) ∧ W12.drew.cell? ⟨g8, 0, none⟩ = some (Value.int .i64 y.s) ∧ W12.drew.cell? ⟨g8, 1, none⟩ = some (Value.bool y.g) ∧ W12.drew.cell? ⟨g8, 2, none⟩ = some (Value.slice y.A y.n y.c) := And.intro (qxr4 U2) (cx3 U1)
        have X2 := blk_f4 U2 (show g19 ≠ w.heap.size by omega) (.slice A5 n c5) (.int .i64 v.s) (.bool v.g) (.slice v.A v.n v.c)
        have X1 := blk_f4 U1 (show g8 ≠ w.heap.size by omega) (.slice A5 n c5) (.int .i64 v.s) (.bool v.g) (.slice v.A v.n v.c)
        have X4 := blk_f4 U4 (show w.heap.size + 1 ≠ w.heap.size by omega) (.slice A5 n c5) (.int .i64 v.s) (.bool v.g) (.slice v.A v.n v.c)
        have X3 := blk_set4 U3 (.slice A5 n c5) (.int .i64 v.s) (.bool v.g) (.slice v.A v.n v.c)
        have kpr : ∀ t, 60 ≠ t → Kp t W12.drew ((((W12.drew.setCell ⟨w.heap.size, 0, none⟩ (.slice A5 n c5)).setCell ⟨w.heap.size, 1, none⟩ (.int .i64 v.s)).setCell ⟨w.heap.size, 2, none⟩ (.bool v.g)).setCell ⟨w.heap.size, 3, none⟩ (.slice v.A v.n v.c)) := fun t ht => q4kp U3 ht (.slice A5 n c5) (.int .i64 v.s) (.bool v.g) (.slice v.A v.n v.c)
        have X5 := RV.kp U5 (kpr _ (by decide))
        have X6 := RV.kp U6 (kpr _ (by decide))
        have X7 := U7.kps (kpr 49 (by decide)) (fun y r h => RV.kp h (kpr 3 (by decide)))
        have X8 := q4_bl (i1 := 0) (i2 := 1) (i3 := 2) (i4 := 3) U8 (show w.heap.size ≤ w.heap.size by omega) (.slice A5 n c5) (.int .i64 v.s) (.bool v.g) (.slice v.A v.n v.c)
        have hS2 : (((((W12.drew.setCell ⟨w.heap.size, 0, none⟩ (.slice A5 n c5)).setCell ⟨w.heap.size, 1, none⟩ (.int .i64 v.s)).setCell ⟨w.heap.size, 2, none⟩ (.bool v.g)).setCell ⟨w.heap.size, 3, none⟩ (.slice v.A v.n v.c)).cell? ⟨g19, 0, none⟩ = some (Value.slice A5 n c5) ∧ ((((W12.drew.setCell ⟨w.heap.size, 0, none⟩ (.slice A5 n c5)).setCell ⟨w.heap.size, 1, none⟩ (.int .i64 v.s)).setCell ⟨w.heap.size, 2, none⟩ (.bool v.g)).setCell ⟨w.heap.size, 3, none⟩ (.slice v.A v.n v.c)).cell? ⟨g19, 1, none⟩ = some (Value.int .i64 v.s) ∧ ((((W12.drew.setCell ⟨w.heap.size, 0, none⟩ (.slice A5 n c5)).setCell ⟨w.heap.size, 1, none⟩ (.int .i64 v.s)).setCell ⟨w.heap.size, 2, none⟩ (.bool v.g)).setCell ⟨w.heap.size, 3, none⟩ (.slice v.A v.n v.c)).cell? ⟨g19, 2, none⟩ = some (Value.bool v.g) ∧ ((((W12.drew.setCell ⟨w.heap.size, 0, none⟩ (.slice A5 n c5)).setCell ⟨w.heap.size, 1, none⟩ (.int .i64 v.s)).setCell ⟨w.heap.size, 2, none⟩ (.bool v.g)).setCell ⟨w.heap.size, 3, none⟩ (.slice v.A v.n v.c)).cell? ⟨g19, 3, none⟩ = some (Value.slice v.A v.n v.c)) ∧ ((((W12.drew.setCell ⟨w.heap.size, 0, none⟩ (.slice A5 n c5)).setCell ⟨w.heap.size, 1, none⟩ (.int .i64 v.s)).setCell ⟨w.heap.size, 2, none⟩ (.bool v.g)).setCell ⟨w.heap.size, 3, none⟩ (.slice v.A v.n v.c)).cell? ⟨g8, 0, none⟩ = some (Value.int .i64 y.s) ∧ ((((W12.drew.setCell ⟨w.heap.size, 0, none⟩ (.slice A5 n c5)).setCell ⟨w.heap.size, 1, none⟩ (.int .i64 v.s)).setCell ⟨w.heap.size, 2, none⟩ (.bool v.g)).setCell ⟨w.heap.size, 3, none⟩ (.slice v.A v.n v.c)).cell? ⟨g8, 1, none⟩ = some (Value.bool y.g) ∧ ((((W12.drew.setCell ⟨w.heap.size, 0, none⟩ (.slice A5 n c5)).setCell ⟨w.heap.size, 1, none⟩ (.int .i64 v.s)).setCell ⟨w.heap.size, 2, none⟩ (.bool v.g)).setCell ⟨w.heap.size, 3, none⟩ (.slice v.A v.n v.c)).cell? ⟨g8, 2, none⟩ = some (Value.slice y.A y.n y.c) := And.intro (qxr4 X2) (cx3 X1)
        have Y3 := blk_far3 X3 (show w.heap.size ≠ w.heap.size + 1 by omega) (.int .i64 y.s) (.bool y.g) (.slice y.A y.n y.c)
        have Y4 := blk_set3 X4 (.int .i64 y.s) (.bool y.g) (.slice y.A y.n y.c)
        have kpz : Kp 3 ((((W12.drew.setCell ⟨w.heap.size, 0, none⟩ (.slice A5 n c5)).setCell ⟨w.heap.size, 1, none⟩ (.int .i64 v.s)).setCell ⟨w.heap.size, 2, none⟩ (.bool v.g)).setCell ⟨w.heap.size, 3, none⟩ (.slice v.A v.n v.c)) _ := (((Kp.refl 3 _).set (p := ⟨w.heap.size + 1, 0, none⟩) X4 (by decide) (.int .i64 y.s)).set (p := ⟨w.heap.size + 1, 1, none⟩) (blk_set X4 0 _) (by decide) (.bool y.g)).set (p := ⟨w.heap.size + 1, 2, none⟩) (blk_set (blk_set X4 0 _) 1 _) (by decide) (.slice y.A y.n y.c)
        have Y5 := RV.kp X5 kpz
        have Y6 := RV.kp X6 kpz
        have hbw : w.heap.size + 1 < bs := by omega
        have Y7 := own_far8 X7 (fun k hk => heap_set3_other ((((W12.drew.setCell ⟨w.heap.size, 0, none⟩ (.slice A5 n c5)).setCell ⟨w.heap.size, 1, none⟩ (.int .i64 v.s)).setCell ⟨w.heap.size, 2, none⟩ (.bool v.g)).setCell ⟨w.heap.size, 3, none⟩ (.slice v.A v.n v.c)) (show k ≠ w.heap.size + 1 by omega) (.int .i64 y.s) (.bool y.g) (.slice y.A y.n y.c)) kpz
        have Y8 := bl_set3 X8 (show w.heap.size ≤ w.heap.size + 1 by omega) (.int .i64 y.s) (.bool y.g) (.slice y.A y.n y.c)
        obtain ⟨A6, c6, e6, Y9⟩ := KR.rdT Y7 (by omega)
        cases e6
        obtain ⟨n1, n2, n3, n4, n5, n6, n7, n8⟩ := q4c U3
        obtain ⟨⟨m1, m2, m3⟩, m4, m5, m6⟩ := bx3 X4
        refine wp_region_U (n := 3) (fun W => (W.cell? ⟨g19, 0, none⟩ = some (Value.slice A5 n c5) ∧ W.cell? ⟨g19, 1, none⟩ = some (Value.int .i64 v.s) ∧ W.cell? ⟨g19, 2, none⟩ = some (Value.bool v.g) ∧ W.cell? ⟨g19, 3, none⟩ = some (Value.slice v.A v.n v.c)) ∧ W.cell? ⟨g8, 0, none⟩ = some (Value.int .i64 y.s) ∧ W.cell? ⟨g8, 1, none⟩ = some (Value.bool y.g) ∧ W.cell? ⟨g8, 2, none⟩ = some (Value.slice y.A y.n y.c)) (by kernel_rfl) ?_
        clear VD
        generalize W12.drew = WD at *
        refine wpU_take (n := 3) (i := 0) (v := ?_) (by decide) (by kernel_rfl) rfl (by kernel_rfl) (by kernel_rfl) (by kernel_rfl) (fun _ _ _ h => h) (by kernel_rfl) (Or.inl ⟨by rfl, ?_⟩) hS0 ?_
        rotate_left
        ·intro w' hSw
         (try dsimp only at hSw)
         go_simp
         (try with_reducible rfl)
        try simp only [Act.put, setIfInBounds_toArray, set_cons_zero, set_cons_succ]
        refine wpU_take (n := 3) (i := 1) (v := ?_) (by decide) (by kernel_rfl) rfl (by kernel_rfl) (by kernel_rfl) (by kernel_rfl) (fun _ _ _ h => h) (by kernel_rfl) (Or.inl ⟨by rfl, ?_⟩) hS0 ?_
        rotate_left
        ·intro w' hSw
         (try dsimp only at hSw)
         go_simp
         (try with_reducible rfl)
        try simp only [Act.put, setIfInBounds_toArray, set_cons_zero, set_cons_succ]
        refine wpU_one (n := 3) (i := 2) (by kernel_rfl) rfl (fun K9 hK9 => ?_)
        go_simp
        refine hK9.out _ _ (fun _ _ => hS2) (fun _ => ?_)
        clear hK9 K9
        try simp only [Act.put, setIfInBounds_toArray, set_cons_zero, set_cons_succ]
        refine wpU_one (n := 3) (i := 3) (by kernel_rfl) rfl (fun K9 hK9 => ?_)
        go_simp
        refine hK9.out _ _ (fun _ h => absurd rfl h) (fun _ => ?_)
        clear hK9 K9
        try simp only [Act.put, setIfInBounds_toArray, set_cons_zero, set_cons_succ]
        refine wpU_done (by kernel_rfl) ?_ _
        have HE1 := Lib.hid Y3
        have HE2 := Lib.hid Y4
        have HE3 := Lib.hid (show (∃ (A9 : Option Addr) (c9 : Nat) (x9 y9 : JC), Ending.returned (.tuple #[.agg #[.slice A5 n c5, .int .i64 v.s, .bool v.g, .slice v.A v.n v.c], .agg #[.int .i64 y.s, .bool y.g, .slice y.A y.n y.c]]) = .returned (.tuple #[.agg #[.slice A9 n c9, .int .i64 x9.s, .bool x9.g, .slice x9.A x9.n x9.c], .agg #[.int .i64 y9.s, .bool y9.g, .slice y9.A y9.n y9.c]]) ∧ RdT _ A9 n (suG n F M).1 ∧ x9.Is _ (suG n F M).2 ∧ y9.Is _ (suK n F M)) ∧ Below w.heap.size w _ from ⟨⟨A5, c5, v, y, rfl, by rw [HSU.out.1]; exact Y9, by rw [HSU.out.2.1]; exact Y5, by rw [HSU.out.2.2]; exact Y6⟩, Y8⟩)
        clear X1 X2 X3 X4 X5 X6 X7 X8 Y3 Y4 Y5 Y6 Y7 Y8 Y9 kpr kpz n1 n2 n3 n4 n5 n6 n7 n8 m1 m2 m3 m4 m5 m6
        go_wp2
        refine bodyPost_ret (results_cells_row rfl _ _ w.heap.size (w.heap.size + 1) 60 49 #[.slice A5 n c5, .int .i64 v.s, .bool v.g, .slice v.A v.n v.c] #[.int .i64 y.s, .bool y.g, .slice y.A y.n y.c] (0, 0) (0, 0) _ _ rfl HE1.out Tryz.underlying60 rfl (by kernel_rfl) rfl HE2.out Tryz.underlying49 rfl (by kernel_rfl)) rfl ?_
        exact HE3.out
end Go.Proofs.YtloplmmnmehkmaaGreat
