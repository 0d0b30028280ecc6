/- LinCombines: plain law. lin: all over numbers. lin: Combine. Reference 02: ValidPoint, Rats, Eval. LinLinear: plain law. few, of a list of forms. LinLinear: the walk. -/
import Derived.Test.YtloplmmnmehkmaaGreatLiA
import Derived.Lib.SliceRun
import Derived.Laws.CopyOwn
import Derived.StillTailTactics
set_option linter.unusedVariables false
set_option linter.unusedSimpArgs false
namespace Go.Proofs.YtloplmmnmehkmaaGreat
open Go.RowKit

def ratQ (x : Int × Int) : Rat := Rat.divInt x.1 x.2
/-- The sum of the first k products. -/
def smK (n : Nat) (F : List Fm) (M : List (Int × Int)) : Nat → Rw
  | 0 => (List.replicate n 0, 0)
  | k + 1 => pls (smK n F M k) (tms (rowF (F.getD k ([], 0))) (ratQ (M.getD k (0, 0))))
def cbQ (n : Nat) (F : List Fm) (M : List (Int × Int)) : List Rat := (smK n F M F.length).1 ++ [(smK n F M F.length).2] ++ [1]
theorem smK_len {n : Nat} {F : List Fm} (M : List (Int × Int)) (hF : ∀ j, j < F.length → (F.getD j ([], 0)).1.length = n) (k : Nat) (hk : k ≤ F.length) : (smK n F M k).1.length = n := by
  induction k with
  | zero => exact List.length_replicate ..
  | succ k ih =>
    have h1 := ih (by omega)
    show (pls _ _).1.length = n
    rw [pls_len _ _ (by rw [tms_len, rowF_len, hF k (by omega), h1])]
    exact h1
end Go.Proofs.YtloplmmnmehkmaaGreat

namespace Go.Proofs.YtloplmmnmehkmaaGreat
open Go.RowKit

def ratP (x : Int × Int) : Rat := Rat.divInt x.1 x.2
theorem ratP_sz {x : Int × Int} (h : OkN x.1 x.2) : SzR 61 (ratP x) := by
  obtain ⟨h1, h2, h3, h4, _⟩ := h
  exact qsz_divInt (by omega) (by unfold Sz; exact Nat.lt_of_le_of_lt (show x.1.natAbs ≤ 1152921504606846976 by omega) (by decide)) (by unfold Sz; exact Nat.lt_of_le_of_lt (show x.2.natAbs ≤ 1152921504606846976 by omega) (by decide))
theorem results_cell_tmp2_row {P : Program} {fn : Func} {p1 p2 p3 : Tmp} {ty1 : TypeId} (h : fn.results = #[.cell p1 ty1, .tmp p2, .tmp p3]) (tmps : Array Value) (w : World) (g1 : Nat) (t1 : TypeId) (cs1 : Array Value) (fr1 : Nat × Nat) (d1 : TypeDesc) (v v' : Value)
    (hp1 : tmps.getD p1 undef = .pointer (some ⟨g1, 0, none⟩)) (hg1 : w.heap[g1]? = some (.cells cs1 t1 fr1))
    (hu1 : P.underlying ty1 = some d1) (hd1 : (match d1 with | .struct _ | .array _ _ => true | _ => false) = true) (hi1 : (P.info? ty1).map (·.size) = some cs1.size)
    (hp2 : tmps.getD p2 undef = v) (hp3 : tmps.getD p3 undef = v') :
    (results fn tmps).run P w = .ok (.tuple #[.agg cs1, v, v']) w := by
  have hp1' : tmps[p1]?.getD undef = .pointer (some ⟨g1, 0, none⟩) := by simpa using hp1
  have hp2' : tmps[p2]?.getD undef = v := by simpa using hp2
  have hp3' : tmps[p3]?.getD undef = v' := by simpa using hp3
  simp [results, h, hp1', hp2', hp3', asAddr, run_loadVar_row w g1 t1 ty1 cs1 fr1 d1 hg1 hu1 hd1 hi1]
set_option maxHeartbeats 40000000
set_option maxRecDepth 100000
theorem allnum_calls (A : Option Addr) (n c : Nat) (l : List (Int × Int)) (w : World) (h : RdN w A n l) (hi : I64s l) :
    Calls Tryz.prog 62 #[.slice A n c, .func (.func 63) #[] #[]] w fun e w' => e = .returned (.bool (decide (OkNs l))) ∧ Below w.heap.size w w' := by
  have L := Lib.hid h.1
  have hn := h.2.1
  generalize hB : decide (OkNs l) = B
  have HB := Lib.hid hB
  clear hB
  go_enter Tryz.func62, Tryz.ntmps62
  go_wp2_with fail
  go_loopw [9] (fun i wr => ∃ k : Nat, k ≤ n ∧ i = .int .i64 k ∧ (∀ j, j < k → OkN (l.getD j (0, 0)).1 (l.getD j (0, 0)).2) ∧ Below w.heap.size w wr) (fun i _ => n - (intOf i).toNat)
  case atStart => exact ⟨0, Nat.zero_le _, rfl, fun j hj => absurd hj (by omega), Below.refl _ _⟩
  case round =>
    obtain ⟨k, hk, rfl, hall, hBw⟩ := hrel
    have HALL := Lib.hid hall
    clear hall
    by_cases hlt : k < n
    · obtain ⟨g, off, rfl, hg, hc⟩ := (h.below hBw).2.2 (by omega)
      obtain ⟨c1, c2⟩ := hc k hlt
      have h64 := hi _ (mem_getD (d := (0, 0)) (by rw [L.out]; exact hlt) : l.getD k (0, 0) ∈ l)
      clear hc h
      generalize hx1 : l.getD k (0, 0) = x1 at *
      have HX1 := Lib.hid hx1
      clear hx1
      go_wp2_with fail
      refine (valid_calls x1.1 x1.2 _ h64.1.1 h64.1.2 h64.2.1 h64.2.2).mono ?_
      rintro e w1 ⟨he, hB1⟩
      replace hBw := bl_then (bl_alloc hBw (.cells #[.int .i64 x1.1, .int .i64 x1.2] 56)) hB1
      clear hB1 c1 c2 h64
      by_cases hok : OkN x1.1 x1.2
      · rw [decide_eq_true hok] at he
        subst he
        replace hok := Lib.hid hok
        go_wp2
        go_roundw
        case rel =>
          refine ⟨k + 1, hlt, by go_num, ?_, hBw⟩
          intro j hj
          rcases Nat.lt_or_ge j k with h1 | h1
          · exact HALL.out j h1
          · have : j = k := by omega
            subst this
            rw [HX1.out]
            exact hok.out
        case measure => simp [intOf]; omega
      · rw [decide_eq_false hok] at he
        subst he
        have hf : B = false := by
          rw [← HB.out, decide_eq_false]
          intro hh
          have := hh _ (mem_getD (d := (0, 0)) (by rw [L.out]; exact hlt) : l.getD k (0, 0) ∈ l)
          rw [HX1.out] at this
          exact hok this
        subst hf
        go_wp2
        go_ret
        exact ⟨rfl, hBw⟩
    · have hf : B = true := by
        rw [← HB.out, decide_eq_true]
        exact all_of_getD (p := fun x : Int × Int => OkN x.1 x.2) (d := (0, 0)) fun j hj => HALL.out j (by rw [L.out] at hj; omega)
      subst hf
      go_wp2
      go_ret
      exact ⟨rfl, hBw⟩
end Go.Proofs.YtloplmmnmehkmaaGreat

namespace Go.Proofs.YtloplmmnmehkmaaGreat
open Go.RowKit

/-- What lin.Combine hands back. -/
def cbF (n : Int) (F : List Fm) (M : List (Int × Int)) : Fm × Int × Int :=
  if OkFs n F ∧ OkNs M then
    if F.length = M.length then
      if ∀ z ∈ scl (cbQ n.toNat F M), mid z then (((scl (cbQ n.toNat F M)).take n.toNat, (scl (cbQ n.toNat F M)).getD n.toNat 0), (scl (cbQ n.toNat F M)).getD (n.toNat + 1) 0, 0)
      else (([], 0), 0, 3)
    else (([], 0), 0, 2)
  else (([], 0), 0, 1)
theorem Kind.Own.base2 {α β : Type} {K : Kind α β} {w : World} {b b' n : Nat} {v : Value} {R : List β} (h : K.Own w b v n R) (hb : b' ≤ b) : K.Own w b' v n R := by
  obtain ⟨l, h1, h2⟩ := h
  refine ⟨l, ⟨h1.1, ?_⟩, h2⟩
  rcases h1.2 with h0 | ⟨g, cap, cur, hv, hbg, r⟩
  · exact .inl h0
  · exact .inr ⟨g, cap, cur, hv, by omega, r⟩
theorem cell_farN (w : World) {g k : Nat} (hk : k ≠ g) (x y : Value) (i : Nat) : ((w.setCell ⟨g, 0, none⟩ x).setCell ⟨g, 1, none⟩ y).cell? ⟨k, i, none⟩ = w.cell? ⟨k, i, none⟩ := by
  have e1 : (w.setCell ⟨g, 0, none⟩ x).heap[k]? = w.heap[k]? := heap_setCell_other _ _ _ _ hk
  have e2 : ((w.setCell ⟨g, 0, none⟩ x).setCell ⟨g, 1, none⟩ y).heap[k]? = (w.setCell ⟨g, 0, none⟩ x).heap[k]? := heap_setCell_other _ _ _ _ hk
  have e := e2.trans e1
  generalize (w.setCell ⟨g, 0, none⟩ x).setCell ⟨g, 1, none⟩ y = W at *
  simp [World.cell?, e]
theorem kp_under {W W' : World} {g : Nat} {cs : Array Value} {T t : TypeId} (hs : W.heap.size = g + 1) (hg : W.heap[g]? = some (.cells cs T (0, 0))) (hb : Below g W W') (ht : T ≠ t) : Kp t W W' := ⟨fun b cs' fr h => by
  have hlt := blk_lt h
  have : b ≠ g := fun e => by
    subst e
    rw [hg] at h
    cases h
    exact ht rfl
  exact (hb.block b (by omega)).trans h⟩
theorem zip_at (l1 l2 : List Rat) (q : Rat) (j : Nat) (a1 : j < l1.length) (a2 : j < l2.length) : (List.zipWith (· + ·) l1 (l2.map (· * q))).getD j 0 = l1.getD j 0 + l2.getD j 0 * q := by
  have a3 : j < (List.zipWith (· + ·) l1 (l2.map (· * q))).length := by simp; omega
  rw [List.getD_eq_getElem?_getD, List.getElem?_eq_getElem a3, List.getD_eq_getElem?_getD, List.getElem?_eq_getElem a1, List.getD_eq_getElem?_getD, List.getElem?_eq_getElem a2]
  simp
theorem smK_sz {n : Nat} {F : List Fm} {M : List (Int × Int)} (hF : ∀ j, j < F.length → (F.getD j ([], 0)).1.length = n ∧ SzW 61 (rowF (F.getD j ([], 0)))) (hM : ∀ j, SzR 61 (ratQ (M.getD j (0, 0)))) (k : Nat) (hk : k ≤ F.length) : SzW (1 + 123 * k) (smK n F M k) := by
  induction k with
  | zero =>
    have z : SzR 1 0 := ⟨by unfold Sz; decide, by unfold Sz; decide⟩
    refine ⟨fun j => ?_, z⟩
    show SzR 1 ((List.replicate n (0 : Rat)).getD j 0)
    rw [List.getD_eq_getElem?_getD, List.getElem?_replicate]
    split <;> exact z
  | succ k ih =>
    have ih := ih (by omega)
    have hl := smK_len M (fun j hj => (hF j hj).1) k (by omega)
    obtain ⟨h1, h2⟩ := hF k (by omega)
    have hq := hM k
    refine ⟨fun j => ?_, ?_⟩
    · show SzR _ ((List.zipWith (· + ·) (smK n F M k).1 ((rowF (F.getD k ([], 0))).1.map (· * ratQ (M.getD k (0, 0))))).getD j 0)
      rcases Nat.lt_or_ge j n with hj | hj
      · have e := zip_at (smK n F M k).1 (rowF (F.getD k ([], 0))).1 (ratQ (M.getD k (0, 0))) j (by omega) (by rw [rowF_len]; omega)
        rw [e]
        exact (qsz_add (ih.1 j) (qsz_mul (h2.1 j) hq)).mono (by omega)
      · rw [List.getD_eq_getElem?_getD, List.getElem?_eq_none (by simp [hl, rowF_len, h1]; omega)]
        exact SzR.mono (k := 1) ⟨by unfold Sz; decide, by unfold Sz; decide⟩ (by omega)
    · show SzR _ ((smK n F M k).2 + (rowF (F.getD k ([], 0))).2 * ratQ (M.getD k (0, 0)))
      exact (qsz_add ih.2 (qsz_mul h2.2 hq)).mono (by omega)
set_option maxHeartbeats 40000000
set_option maxRecDepth 100000
theorem lcomb_calls (n : Int) (A : Option Addr) (m c : Nat) (F : List Fm) (A' : Option Addr) (m' c' : Nat) (M : List (Int × Int)) (w : World) (h : RdF w A m F) (hi : ∀ f ∈ F, I64F f) (hl : ∀ f ∈ F, f.1.length ≤ 1000000) (hm : m ≤ 500) (h' : RdN w A' m' M) (hi' : I64s M) :
    Calls Tryz.prog 23 #[.int .i64 n, .slice A m c, .slice A' m' c'] w fun e w' => (∃ v, e = .returned (.tuple #[v, .int .i64 (cbF n F M).2.1, .int .i64 (cbF n F M).2.2]) ∧ FmR v w' (cbF n F M).1) ∧ Below w.heap.size w w' := by
  have L := Lib.hid h.1
  have L' := Lib.hid h'.1
  have HI := Lib.hid hi
  have HI' := Lib.hid hi'
  have HL := Lib.hid hl
  have hm'63 := h'.2.1
  have NO : ¬ (OkFs n F ∧ OkNs M) → cbF n F M = (([], 0), 0, 1) := fun hh => if_neg hh
  have DIM : OkFs n F → OkNs M → F.length ≠ M.length → cbF n F M = (([], 0), 0, 2) := fun h1 h2 hh => by unfold cbF; rw [if_pos ⟨h1, h2⟩, if_neg hh]
  have FULL : OkFs n F → OkNs M → F.length = M.length → ¬ (∀ z ∈ scl (cbQ n.toNat F M), mid z) → cbF n F M = (([], 0), 0, 3) := fun h1 h2 hh h3 => by unfold cbF; rw [if_pos ⟨h1, h2⟩, if_pos hh, if_neg h3]
  have YES : OkFs n F → OkNs M → F.length = M.length → (∀ z ∈ scl (cbQ n.toNat F M), mid z) → cbF n F M = (((scl (cbQ n.toNat F M)).take n.toNat, (scl (cbQ n.toNat F M)).getD n.toNat 0), (scl (cbQ n.toNat F M)).getD (n.toNat + 1) 0, 0) := fun h1 h2 hh h3 => by unfold cbF; rw [if_pos ⟨h1, h2⟩, if_pos hh, if_pos h3]
  generalize cbF n F M = E9 at *
  clear hi hl hi'
  go_enter Tryz.func23, Tryz.ntmps23
  have B0 := bl_alloc (Below.refl w.heap.size w) (.cells #[.slice none 0 0, .int .i64 0] 44)
  have az : (w.alloc (.cells #[.slice none 0 0, .int .i64 0] 44)).heap[w.heap.size]? = some (.cells #[.slice none 0 0, .int .i64 0] 44 (0, 0)) := blk_at _ rfl
  go_wp2_with fail
  refine (forms_calls n A m c F _ (h.below B0)).mono ?_
  rintro e w1 ⟨he, hB1⟩
  replace az := blk_below az hB1
  replace B0 := bl_then B0 hB1
  clear hB1
  by_cases hok : OkFs n F
  · rw [decide_eq_true hok] at he
    subst he
    go_wp2_with fail
    refine (allnum_calls A' m' c' M _ (h'.below B0) HI'.out).mono ?_
    rintro e w2 ⟨he, hB2⟩
    replace az := blk_below az hB2
    replace B0 := bl_then B0 hB2
    clear hB2
    by_cases hok' : OkNs M
    · rw [decide_eq_true hok'] at he
      subst he
      obtain ⟨n, rfl⟩ : ∃ nn : Nat, n = nn := ⟨n.toNat, by have := hok.1.1; omega⟩
      rw [Int.toNat_natCast] at FULL YES
      by_cases hmm : m = m'
      · subst hmm
        have hFM : F.length = M.length := by rw [L.out, L'.out]
        have HYES := Lib.hid (YES hok hok' hFM)
        have HFULL := Lib.hid (FULL hok hok' hFM)
        have HOK := Lib.hid hok
        have HOK' := Lib.hid hok'
        have hn8 : n ≤ 8 := by have := hok.1.2; omega
        have hm120 : m ≤ 120 := by have := hok.2.1; rw [L.out] at this; exact this
        have HFL : Hid (∀ j, j < F.length → (F.getD j ([], 0)).1.length = n ∧ SzW 61 (rowF (F.getD j ([], 0)))) := Lib.hid fun j hj => by
          have hf := hok.2.2 _ (mem_getD (d := (([], 0) : Fm)) hj)
          exact ⟨by have := hf.2.1; omega, rowF_sz hf⟩
        have HMQ : Hid (∀ j, SzR 61 (ratQ (M.getD j (0, 0)))) := Lib.hid fun j => by
          rcases Nat.lt_or_ge j M.length with hj | hj
          · exact ratP_sz (hok' _ (mem_getD (d := ((0, 0) : Int × Int)) hj))
          · rw [List.getD_eq_getElem?_getD, List.getElem?_eq_none hj]
            exact ⟨by show Sz 61 (Rat.divInt 0 0).num; unfold Sz; decide, by show Sz 61 ((Rat.divInt 0 0).den : Int); unfold Sz; decide⟩
        have HSZ : Hid (∀ k, k ≤ m → (smK n F M k).1.length = n ∧ SzW 20000 (smK n F M k)) := Lib.hid fun k hk => ⟨smK_len M (fun j hj => (HFL.out j hj).1) k (by rw [L.out]; exact hk), by
          have := smK_sz HFL.out HMQ.out k (by rw [L.out]; exact hk)
          exact ⟨fun j => (this.1 j).mono (by omega), this.2.mono (by omega)⟩⟩
        clear NO DIM YES FULL hok hok' hFM
        obtain ⟨cs, hcs, qm⟩ := made_q n (by omega)
        have OQ := OwnQ.made_at (W := w2) (base := w.heap.size) (g := w2.heap.size) n rfl B0.size (by omega) cs hcs
        have B1 := bl_alloc (bl_alloc B0 (.cells cs 88)) (.cells #[.slice (some ⟨w2.heap.size, 0, none⟩) n n, .int .i64 0, .slice none 0 0, .int .i64 0, .slice none 0 0, .bool false] 90)
        have az1 := blk_alloc (blk_alloc az (.cells cs 88)) (.cells #[.slice (some ⟨w2.heap.size, 0, none⟩) n n, .int .i64 0, .slice none 0 0, .int .i64 0, .slice none 0 0, .bool false] 90)
        have RB : RwB ((w2.alloc (.cells cs 88)).alloc (.cells #[.slice (some ⟨w2.heap.size, 0, none⟩) n n, .int .i64 0, .slice none 0 0, .int .i64 0, .slice none 0 0, .bool false] 90)) (w2.heap.size + 1) n (smK n F M 0) := ⟨_, _, _, _, blk_at _ (by simp), (OQ.rd (by omega)).below (bl_alloc (Below.refl _ _) _), RC.zero_is _⟩
        have lzw := blk_lt az
        go_wp2_with fail
        clear qm OQ
        have hg9w : w.heap.size ≠ w2.heap.size + 1 := by omega
        have hgb : w.heap.size ≤ w2.heap.size + 1 := by omega
        generalize w2.heap.size + 1 = g9 at *
        go_loopw [40] (fun i wr => ∃ kk : Nat, kk ≤ m ∧ i = .int .i64 kk ∧ RwB wr g9 n (smK n F M kk) ∧ wr.heap[w.heap.size]? = some (.cells #[.slice none 0 0, .int .i64 0] 44 (0, 0)) ∧ Below w.heap.size w wr) (fun i _ => m - (intOf i).toNat)
        case atStart => exact ⟨0, Nat.zero_le _, rfl, RB, az1, B1⟩
        case round =>
          clear RB az1 B1 az B0
          obtain ⟨kk, hkk, rfl, RB, az, B0⟩ := hrel
          by_cases hlt : kk < m
          · obtain ⟨g, off, rfl, hg, hc⟩ := (h.below B0).2.2 (by omega)
            obtain ⟨A1, n1, c1, p1, p2, c3⟩ := hc kk hlt
            obtain ⟨gm, om, rfl, lgm, hcm⟩ := (h'.below B0).2.2 (by omega)
            obtain ⟨pm1, pm2⟩ := hcm kk hlt
            have hmemM : M.getD kk (0, 0) ∈ M := mem_getD (by rw [L'.out]; exact hlt)
            have hmemF : F.getD kk ([], 0) ∈ F := mem_getD (by rw [L.out]; exact hlt)
            have mb := HI'.out _ hmemM
            have h64 := HI.out _ hmemF
            have HLN := Lib.hid (HFL.out kk (by rw [L.out]; exact hlt)).1
            have HRS := Lib.hid (HFL.out kk (by rw [L.out]; exact hlt)).2
            have HQS := Lib.hid (HMQ.out kk)
            have hml : (M.getD kk (0, 0)).2 ≠ 0 := by have := (HOK'.out _ hmemM).1; omega
            obtain ⟨hsl, hsm⟩ := HSZ.out kk (by omega)
            have HSL := Lib.hid hsl
            have HSM := Lib.hid hsm
            have HSX : Hid (pls (smK n F M kk) (tms (rowF (F.getD kk ([], 0))) (ratQ (M.getD kk (0, 0)))) = smK n F M (kk + 1)) := Lib.hid rfl
            have HTS : Hid (SzW 20000 (tms (rowF (F.getD kk ([], 0))) (ratQ (M.getD kk (0, 0))))) := Lib.hid ⟨fun j => by
              rcases Nat.lt_or_ge j (rowF (F.getD kk ([], 0))).1.length with hj | hj
              · have e : (tms (rowF (F.getD kk ([], 0))) (ratQ (M.getD kk (0, 0)))).1.getD j 0 = (rowF (F.getD kk ([], 0))).1.getD j 0 * ratQ (M.getD kk (0, 0)) := getD_map (· * ratQ (M.getD kk (0, 0))) _ j 0 0 hj
                rw [e]; exact (qsz_mul (HRS.out.1 j) HQS.out).mono (by omega)
              · rw [List.getD_eq_getElem?_getD, List.getElem?_eq_none (by rw [tms_len]; exact hj)]
                exact SzR.mono (k := 1) ⟨by unfold Sz; decide, by unfold Sz; decide⟩ (by omega), (qsz_mul HRS.out.2 HQS.out).mono (by omega)⟩
            have HPL : Hid ((tms (rowF (F.getD kk ([], 0))) (ratQ (M.getD kk (0, 0)))).1.length = (smK n F M kk).1.length) := Lib.hid (by rw [tms_len, rowF_len, HLN.out, hsl])
            clear hc hcm hmemM hmemF hsl hsm
            generalize F.getD kk ([], 0) = f1 at *
            generalize hMk : M.getD kk (0, 0) = mk at *
            clear hMk
            obtain ⟨mt, ml⟩ := mk
            dsimp only at pm1 pm2 mb hml
            generalize smK n F M kk = sm at *

            have hk0 : (0 : Int) ≤ (kk : Int) := by omega
            have hkn : (kk : Int) < (m : Int) := by omega
            have hn1 : n = n1 := HLN.out.symm.trans c3.1
            subst hn1
            have c4 := c3.below (bl_alloc (Below.refl _ _) (.cells #[.slice A1 n c1, .int .i64 f1.2] 44))
            have a11 : (wr.alloc (.cells #[.slice A1 n c1, .int .i64 f1.2] 44)).heap[wr.heap.size]? = some (.cells #[.slice A1 n c1, .int .i64 f1.2] 44 (0, 0)) := blk_at _ rfl
            have BX : Below wr.heap.size wr (wr.alloc (.cells #[.slice A1 n c1, .int .i64 f1.2] 44)) := bl_alloc (Below.refl _ _) _
            replace RB := RB.below BX
            replace az := blk_below az BX
            replace B0 := bl_then B0 BX
            have pm1 := ((cells_below BX).1 _ _ lgm).trans pm1
            have pm2 := ((cells_below BX).1 _ _ lgm).trans pm2
            replace lgm := Nat.lt_of_lt_of_le lgm BX.size
            go_upto_region 9 with (fail)
            clear c3 BX p1 p2 hg
            generalize wr.heap.size = g11 at *
            generalize wr.alloc (.cells #[.slice A1 n c1, .int .i64 f1.2] 44) = W9 at *
            obtain ⟨A9, c9, x9, b9, a9, t9⟩ := RB
            have lg9 := blk_lt a9
            have cmB : ∀ W, Below W9.heap.size W9 W → W.cell? ⟨gm, om + kk * 2, none⟩ = some (Value.int .i64 mt) ∧ W.cell? ⟨gm, om + kk * 2 + 1, none⟩ = some (Value.int .i64 ml) := fun W hB => ⟨((cells_below hB).1 _ _ lgm).trans pm1, ((cells_below hB).1 _ _ lgm).trans pm2⟩
            have H0 : Below W9.heap.size W9 W9.drew := bl_drew (Below.refl _ _)
            have a9_0 := blk_drew a9
            have a11_0 := blk_drew a11
            have cm_0 := cmB _ H0
            have hS0 : (W9.drew.cell? ⟨g9, 0, none⟩ = some (Value.slice A9 n c9) ∧ W9.drew.cell? ⟨g9, 1, none⟩ = some (Value.int .i64 x9.v) ∧ W9.drew.cell? ⟨g9, 2, none⟩ = some (Value.slice x9.A x9.n x9.c) ∧ W9.drew.cell? ⟨g9, 3, none⟩ = some (Value.int .i64 x9.v') ∧ W9.drew.cell? ⟨g9, 4, none⟩ = some (Value.slice x9.A' x9.n' x9.c') ∧ W9.drew.cell? ⟨g9, 5, none⟩ = some (Value.bool b9)) ∧ (W9.drew.cell? ⟨g11, 0, none⟩ = some (Value.slice A1 n c1) ∧ W9.drew.cell? ⟨g11, 1, none⟩ = some (Value.int .i64 f1.2) ∧ W9.drew.cell? ⟨gm, om + kk * 2, none⟩ = some (Value.int .i64 mt) ∧ W9.drew.cell? ⟨gm, om + kk * 2 + 1, none⟩ = some (Value.int .i64 ml)) := And.intro (qx6 a9_0) (And.intro (qx2 a11_0).1 (And.intro (qx2 a11_0).2 (cm_0)))
            refine wp_region_U (n := 10) (fun W => (W.cell? ⟨g9, 0, none⟩ = some (Value.slice A9 n c9) ∧ W.cell? ⟨g9, 1, none⟩ = some (Value.int .i64 x9.v) ∧ W.cell? ⟨g9, 2, none⟩ = some (Value.slice x9.A x9.n x9.c) ∧ W.cell? ⟨g9, 3, none⟩ = some (Value.int .i64 x9.v') ∧ W.cell? ⟨g9, 4, none⟩ = some (Value.slice x9.A' x9.n' x9.c') ∧ W.cell? ⟨g9, 5, none⟩ = some (Value.bool b9)) ∧ (W.cell? ⟨g11, 0, none⟩ = some (Value.slice A1 n c1) ∧ W.cell? ⟨g11, 1, none⟩ = some (Value.int .i64 f1.2) ∧ W.cell? ⟨gm, om + kk * 2, none⟩ = some (Value.int .i64 mt) ∧ W.cell? ⟨gm, om + kk * 2 + 1, none⟩ = some (Value.int .i64 ml))) (by kernel_rfl) ?_
            refine wpU_take (n := 10) (i := 0) (v := ?_) (by decide) (by kernel_rfl) rfl (by kernel_rfl) (by kernel_rfl) (by kernel_rfl) (fun _ _ _ h => h) (by kernel_rfl) (Or.inl ⟨by rfl, ?_⟩) hS0 ?_
            rotate_left
            · intro w' hSw
              (try dsimp only at hSw)
              go_simp
              (try with_reducible rfl)
            try simp only [Act.put, List.setIfInBounds_toArray, List.set_cons_zero, List.set_cons_succ]
            refine wpU_take (n := 10) (i := 1) (v := ?_) (by decide) (by kernel_rfl) rfl (by kernel_rfl) (by kernel_rfl) (by kernel_rfl) (fun _ _ _ h => h) (by kernel_rfl) (Or.inl ⟨by rfl, ?_⟩) hS0 ?_
            rotate_left
            · intro w' hSw
              (try dsimp only at hSw)
              go_simp
              (try with_reducible rfl)
            try simp only [Act.put, List.setIfInBounds_toArray, List.set_cons_zero, List.set_cons_succ]
            refine wpU_take (n := 10) (i := 3) (v := ?_) (by decide) (by kernel_rfl) rfl (by kernel_rfl) (by kernel_rfl) (by kernel_rfl) (fun _ _ _ h => h) (by kernel_rfl) (Or.inl ⟨by rfl, ?_⟩) hS0 ?_
            rotate_left
            · intro w' hSw
              (try dsimp only at hSw)
              go_simp
              (try with_reducible rfl)
            try simp only [Act.put, List.setIfInBounds_toArray, List.set_cons_zero, List.set_cons_succ]
            refine wpU_take (n := 10) (i := 4) (v := ?_) (by decide) (by kernel_rfl) rfl (by kernel_rfl) (by kernel_rfl) (by kernel_rfl) (fun _ _ _ h => h) (by kernel_rfl) (Or.inl ⟨by rfl, ?_⟩) hS0 ?_
            rotate_left
            · intro w' hSw
              (try dsimp only at hSw)
              go_simp
              (try with_reducible rfl)
            try simp only [Act.put, List.setIfInBounds_toArray, List.set_cons_zero, List.set_cons_succ]
            refine wpU_take (n := 10) (i := 5) (v := ?_) (by decide) (by kernel_rfl) rfl (by kernel_rfl) (by kernel_rfl) (by kernel_rfl) (fun _ _ _ h => h) (by kernel_rfl) (Or.inl ⟨by rfl, ?_⟩) hS0 ?_
            rotate_left
            · intro w' hSw
              (try dsimp only at hSw)
              go_simp
              (try with_reducible rfl)
            try simp only [Act.put, List.setIfInBounds_toArray, List.set_cons_zero, List.set_cons_succ]
            refine wpU_take (n := 10) (i := 6) (v := ?_) (by decide) (by kernel_rfl) rfl (by kernel_rfl) (by kernel_rfl) (by kernel_rfl) (fun _ _ _ h => h) (by kernel_rfl) (Or.inl ⟨by rfl, ?_⟩) hS0 ?_
            rotate_left
            · intro w' hSw
              (try dsimp only at hSw)
              go_simp
              (try with_reducible rfl)
            try simp only [Act.put, List.setIfInBounds_toArray, List.set_cons_zero, List.set_cons_succ]
            refine wpU_one (n := 10) (i := 2) (by kernel_rfl) rfl (fun K9 hK9 => ?_)
            go_simp
            refine (lrow_calls A1 n c1 f1 _ (c4.below (H0)) h64 (by omega)).mono ?_
            rintro e y1 ⟨⟨Ar, nr, cr, xr, rfl, tr⟩, hB1⟩
            have H1 : Below W9.heap.size W9 y1 := bl_then H0 hB1
            have a9_1 := blk_below a9 H1
            have a11_1 := blk_below a11 H1
            have cm_1 := cmB _ H1
            have hS1 : (y1.cell? ⟨g9, 0, none⟩ = some (Value.slice A9 n c9) ∧ y1.cell? ⟨g9, 1, none⟩ = some (Value.int .i64 x9.v) ∧ y1.cell? ⟨g9, 2, none⟩ = some (Value.slice x9.A x9.n x9.c) ∧ y1.cell? ⟨g9, 3, none⟩ = some (Value.int .i64 x9.v') ∧ y1.cell? ⟨g9, 4, none⟩ = some (Value.slice x9.A' x9.n' x9.c') ∧ y1.cell? ⟨g9, 5, none⟩ = some (Value.bool b9)) ∧ (y1.cell? ⟨g11, 0, none⟩ = some (Value.slice A1 n c1) ∧ y1.cell? ⟨g11, 1, none⟩ = some (Value.int .i64 f1.2) ∧ y1.cell? ⟨gm, om + kk * 2, none⟩ = some (Value.int .i64 mt) ∧ y1.cell? ⟨gm, om + kk * 2 + 1, none⟩ = some (Value.int .i64 ml)) := And.intro (qx6 a9_1) (And.intro (qx2 a11_1).1 (And.intro (qx2 a11_1).2 (cm_1)))
            refine hK9.out _ _ (fun _ _ => hS1) (fun _ => ?_)
            clear hK9 K9
            try simp only [Act.put, List.setIfInBounds_toArray, List.set_cons_zero, List.set_cons_succ]
            refine wpU_one (n := 10) (i := 7) (by kernel_rfl) rfl (fun K9 hK9 => ?_)
            go_simp
            refine (rat_calls mt ml _ mb.1.1 mb.1.2 mb.2.1 mb.2.2 hml).mono ?_
            rintro e y2 ⟨⟨v8, A8, n8, c8, v8', A8', n8', c8', rfl, tq⟩, hB2⟩
            have H2 : Below W9.heap.size W9 y2 := bl_then H1 hB2
            have a9_2 := blk_below a9 H2
            have a11_2 := blk_below a11 H2
            have cm_2 := cmB _ H2
            have hS2 : (y2.cell? ⟨g9, 0, none⟩ = some (Value.slice A9 n c9) ∧ y2.cell? ⟨g9, 1, none⟩ = some (Value.int .i64 x9.v) ∧ y2.cell? ⟨g9, 2, none⟩ = some (Value.slice x9.A x9.n x9.c) ∧ y2.cell? ⟨g9, 3, none⟩ = some (Value.int .i64 x9.v') ∧ y2.cell? ⟨g9, 4, none⟩ = some (Value.slice x9.A' x9.n' x9.c') ∧ y2.cell? ⟨g9, 5, none⟩ = some (Value.bool b9)) ∧ (y2.cell? ⟨g11, 0, none⟩ = some (Value.slice A1 n c1) ∧ y2.cell? ⟨g11, 1, none⟩ = some (Value.int .i64 f1.2) ∧ y2.cell? ⟨gm, om + kk * 2, none⟩ = some (Value.int .i64 mt) ∧ y2.cell? ⟨gm, om + kk * 2 + 1, none⟩ = some (Value.int .i64 ml)) := And.intro (qx6 a9_2) (And.intro (qx2 a11_2).1 (And.intro (qx2 a11_2).2 (cm_2)))
            refine hK9.out _ _ (fun _ _ => hS2) (fun _ => ?_)
            clear hK9 K9
            try simp only [Act.put, List.setIfInBounds_toArray, List.set_cons_zero, List.set_cons_succ]
            refine wpU_one (n := 10) (i := 8) (by kernel_rfl) rfl (fun K9 hK9 => ?_)
            go_simp
            refine (rowtimes_calls Ar nr cr xr false (rowF f1) ⟨v8, A8, n8, c8, v8', A8', n8', c8'⟩ _ _ (tr.below hB2) tq 61 HRS.out HQS.out (by omega)).mono ?_
            rintro e y3 ⟨⟨A3, n3, c3, x3, rfl, t3⟩, hB3⟩
            have H3 : Below W9.heap.size W9 y3 := bl_then H2 hB3
            have a9_3 := blk_below a9 H3
            have a11_3 := blk_below a11 H3
            have cm_3 := cmB _ H3
            have hS3 : (y3.cell? ⟨g9, 0, none⟩ = some (Value.slice A9 n c9) ∧ y3.cell? ⟨g9, 1, none⟩ = some (Value.int .i64 x9.v) ∧ y3.cell? ⟨g9, 2, none⟩ = some (Value.slice x9.A x9.n x9.c) ∧ y3.cell? ⟨g9, 3, none⟩ = some (Value.int .i64 x9.v') ∧ y3.cell? ⟨g9, 4, none⟩ = some (Value.slice x9.A' x9.n' x9.c') ∧ y3.cell? ⟨g9, 5, none⟩ = some (Value.bool b9)) ∧ (y3.cell? ⟨g11, 0, none⟩ = some (Value.slice A1 n c1) ∧ y3.cell? ⟨g11, 1, none⟩ = some (Value.int .i64 f1.2) ∧ y3.cell? ⟨gm, om + kk * 2, none⟩ = some (Value.int .i64 mt) ∧ y3.cell? ⟨gm, om + kk * 2 + 1, none⟩ = some (Value.int .i64 ml)) := And.intro (qx6 a9_3) (And.intro (qx2 a11_3).1 (And.intro (qx2 a11_3).2 (cm_3)))
            have hn3 : n = n3 := by rw [← t3.1.1, tms_len, rowF_len]; exact HLN.out.symm
            subst hn3
            refine hK9.out _ _ (fun _ _ => hS3) (fun _ => ?_)
            clear hK9 K9
            try simp only [Act.put, List.setIfInBounds_toArray, List.set_cons_zero, List.set_cons_succ]
            refine wpU_one (n := 10) (i := 9) (by kernel_rfl) rfl (fun K9 hK9 => ?_)
            go_simp
            refine (rowplus_calls A9 n c9 x9 b9 sm A3 c3 x3 false (tms (rowF f1) (ratQ (mt, ml))) _ (t9.below H3) t3 20000 HSM.out HTS.out (by omega)).mono ?_
            rintro e y4 ⟨⟨A5, n5, c5, x5, rfl, t5⟩, hB4⟩
            have H4 : Below W9.heap.size W9 y4 := bl_then H3 hB4
            have a9_4 := blk_below a9 H4
            have a11_4 := blk_below a11 H4
            have cm_4 := cmB _ H4
            have hS4 : (y4.cell? ⟨g9, 0, none⟩ = some (Value.slice A9 n c9) ∧ y4.cell? ⟨g9, 1, none⟩ = some (Value.int .i64 x9.v) ∧ y4.cell? ⟨g9, 2, none⟩ = some (Value.slice x9.A x9.n x9.c) ∧ y4.cell? ⟨g9, 3, none⟩ = some (Value.int .i64 x9.v') ∧ y4.cell? ⟨g9, 4, none⟩ = some (Value.slice x9.A' x9.n' x9.c') ∧ y4.cell? ⟨g9, 5, none⟩ = some (Value.bool b9)) ∧ (y4.cell? ⟨g11, 0, none⟩ = some (Value.slice A1 n c1) ∧ y4.cell? ⟨g11, 1, none⟩ = some (Value.int .i64 f1.2) ∧ y4.cell? ⟨gm, om + kk * 2, none⟩ = some (Value.int .i64 mt) ∧ y4.cell? ⟨gm, om + kk * 2 + 1, none⟩ = some (Value.int .i64 ml)) := And.intro (qx6 a9_4) (And.intro (qx2 a11_4).1 (And.intro (qx2 a11_4).2 (cm_4)))
            obtain ⟨⟨k1, k2, k3, k4, k5, k6⟩, k7⟩ := q6 a9_4
            refine hK9.out _ _ (fun _ _ => hS4) (fun _ => ?_)
            clear hK9 K9
            try simp only [Act.put, List.setIfInBounds_toArray, List.set_cons_zero, List.set_cons_succ]
            refine wpU_one (n := 10) (i := 10) (by kernel_rfl) rfl (fun K9 hK9 => ?_)
            go_simp
            refine hK9.out _ _ (fun _ h => absurd rfl h) (fun _ => ?_)
            clear hK9 K9
            try simp only [Act.put, List.setIfInBounds_toArray, List.set_cons_zero, List.set_cons_succ]
            refine wpU_done (by kernel_rfl) ?_ _
            have hn5 : n = n5 := by rw [← t5.1.1, pls_len _ _ HPL.out]; exact HSL.out.symm
            subst hn5
            have RB2 : RwB y4 g9 n sm := ⟨_, _, _, _, a9_4, t9.below H4⟩
            have V1 := RB2.set (b := b9) (c := c5) t5
            rw [HSX.out] at V1
            have V2 := q6_bl (bl_then B0 H4) hgb (.slice A5 n c5) (.int .i64 x5.v) (.slice x5.A x5.n x5.c) (.int .i64 x5.v') (.slice x5.A' x5.n' x5.c') (.bool b9)
            have V3 := q6_far (blk_below az H4) hg9w (.slice A5 n c5) (.int .i64 x5.v) (.slice x5.A x5.n x5.c) (.int .i64 x5.v') (.slice x5.A' x5.n' x5.c') (.bool b9)
            have HV1 := Lib.hid V1
            have HV2 := Lib.hid V2
            have HV3 := Lib.hid V3
            clear V1 V2 V3 RB2 hS0 hS1 hS2 hS3 hS4
            go_wp2
            go_roundw
            case rel => exact ⟨kk + 1, hlt, by go_num, HV1.out, HV3.out, HV2.out⟩
            case measure => simp [intOf]; omega
          · have hkn : m = kk := by omega
            subst hkn
            obtain ⟨A9, c9, x9, b9, a9, t9⟩ := RB
            have lg9 := blk_lt a9
            obtain ⟨hsl, hsm⟩ := HSZ.out m (Nat.le_refl m)
            have HQE : Hid ((smK n F M m).1 ++ [(smK n F M m).2] ++ [((1 : Int) : Rat)] = cbQ n F M) := Lib.hid (by unfold cbQ; rw [L.out]; rfl)
            have HQL : Hid ((cbQ n F M).length = n + 2) := Lib.hid (by rw [← HQE.out]; simp [hsl])
            have HQS : Hid (∀ j, SzR 20000 ((cbQ n F M).getD j 0)) := Lib.hid fun j => by
              rw [← HQE.out]
              have z0 : SzR 20000 (0 : Rat) := SzR.mono (k := 1) ⟨by unfold Sz; decide, by unfold Sz; decide⟩ (by omega)
              rcases Nat.lt_or_ge j n with hj | hj
              · rw [List.append_assoc, List.getD_eq_getElem?_getD, List.getElem?_append_left (by omega), ← List.getD_eq_getElem?_getD]; exact hsm.1 j
              · rcases Nat.lt_or_ge j (n + 1) with hj' | hj'
                · have : j = n := by omega
                  subst this
                  rw [List.getD_eq_getElem?_getD, List.getElem?_append_left (by simp [hsl]), ← List.getD_eq_getElem?_getD, getD_app_one _ _ _ _ hsl]; exact hsm.2
                · rcases Nat.lt_or_ge j (n + 2) with hj'' | hj''
                  · have : j = n + 1 := by omega
                    subst this
                    rw [getD_app_one _ _ _ _ (by simp [hsl])]
                    exact SzR.mono (k := 1) ⟨by unfold Sz; decide, by unfold Sz; decide⟩ (by omega)
                  · rw [List.getD_eq_getElem?_getD, List.getElem?_eq_none (by simp [hsl]; omega)]; exact z0
            clear hsl hsm HSZ
            generalize smK n F M m = sm at *
            generalize wr = W1 at *
            go_upto_region 11 with (fail)
            go_cut [12] (fun p wc => ∃ (gs cap base : Nat), p = .slice (some ⟨gs, 0, none⟩) (n + 1 + 1) cap ∧ OwnJ wc base gs (n + 1 + 1) cap (scl (cbQ n F M)) ∧ Below W1.heap.size W1 wc)
            case first =>
              have hSd : ∀ W, Below W1.heap.size W1 W → W.cell? ⟨g9, 0, none⟩ = some (Value.slice A9 n c9) ∧ W.cell? ⟨g9, 1, none⟩ = some (Value.int .i64 x9.v) ∧ W.cell? ⟨g9, 2, none⟩ = some (Value.slice x9.A x9.n x9.c) ∧ W.cell? ⟨g9, 3, none⟩ = some (Value.int .i64 x9.v') ∧ W.cell? ⟨g9, 4, none⟩ = some (Value.slice x9.A' x9.n' x9.c') ∧ W.cell? ⟨g9, 5, none⟩ = some (Value.bool b9) := fun W hB => qx6 (blk_below a9 hB)
              have hS0 := hSd W1.drew (bl_drew (Below.refl _ _))
              refine wp_region_U (n := 11) (fun W => W.cell? ⟨g9, 0, none⟩ = some (Value.slice A9 n c9) ∧ W.cell? ⟨g9, 1, none⟩ = some (Value.int .i64 x9.v) ∧ W.cell? ⟨g9, 2, none⟩ = some (Value.slice x9.A x9.n x9.c) ∧ W.cell? ⟨g9, 3, none⟩ = some (Value.int .i64 x9.v') ∧ W.cell? ⟨g9, 4, none⟩ = some (Value.slice x9.A' x9.n' x9.c') ∧ W.cell? ⟨g9, 5, none⟩ = some (Value.bool b9)) (by kernel_rfl) ?_
              refine wpU_take (n := 11) (i := 0) (v := ?_) (by decide) (by kernel_rfl) rfl (by kernel_rfl) (by kernel_rfl) (by kernel_rfl) (fun _ _ _ h => h) (by kernel_rfl) (Or.inl ⟨by rfl, ?_⟩) hS0 ?_
              rotate_left
              · intro w' hSw
                (try dsimp only at hSw)
                go_simp
                (try with_reducible rfl)
              try simp only [Act.put, List.setIfInBounds_toArray, List.set_cons_zero, List.set_cons_succ]
              refine wpU_take (n := 11) (i := 1) (v := ?_) (by decide) (by kernel_rfl) rfl (by kernel_rfl) (by kernel_rfl) (by kernel_rfl) (fun _ _ _ h => h) (by kernel_rfl) (Or.inl ⟨by rfl, ?_⟩) hS0 ?_
              rotate_left
              · intro w' hSw
                (try dsimp only at hSw)
                go_simp
                (try with_reducible rfl)
              try simp only [Act.put, List.setIfInBounds_toArray, List.set_cons_zero, List.set_cons_succ]
              refine wpU_take (n := 11) (i := 3) (v := ?_) (by decide) (by kernel_rfl) rfl (by kernel_rfl) (by kernel_rfl) (by kernel_rfl) (fun _ _ _ h => h) (by kernel_rfl) (Or.inl ⟨by rfl, ?_⟩) hS0 ?_
              rotate_left
              · intro w' hSw
                (try dsimp only at hSw)
                go_simp
                (try with_reducible rfl)
              try simp only [Act.put, List.setIfInBounds_toArray, List.set_cons_zero, List.set_cons_succ]
              refine wpU_take (n := 11) (i := 4) (v := ?_) (by decide) (by kernel_rfl) rfl (by kernel_rfl) (by kernel_rfl) (by kernel_rfl) (fun _ _ _ h => h) (by kernel_rfl) (Or.inl ⟨by rfl, ?_⟩) hS0 ?_
              rotate_left
              · intro w' hSw
                (try dsimp only at hSw)
                go_simp
                (try with_reducible rfl)
              try simp only [Act.put, List.setIfInBounds_toArray, List.set_cons_zero, List.set_cons_succ]
              refine wpU_two (n := 11) (i := 2) (k := 5) (by kernel_rfl) rfl rfl (fun K9 hK9 => ?_) (fun K9 hK9 => ?_)
              · go_simp
                refine (clone_calls A9 n c9 sm.1 _ (t9.1.below (bl_drew (Below.refl _ _)))).mono ?_
                rintro e y1 ⟨⟨v1, rfl, O1⟩, hB1⟩
                have V1 : Below W1.heap.size W1 y1 := bl_then (bl_drew (Below.refl _ _)) hB1
                replace O1 : KQ.Own y1 W1.heap.size v1 n sm.1 := O1
                refine hK9.out _ _ (fun _ _ => hSd _ V1) (fun _ => ?_)
                clear hK9 K9
                try simp only [Act.put, List.setIfInBounds_toArray, List.set_cons_zero, List.set_cons_succ]
                refine wpU_one (n := 11) (i := 5) (by kernel_rfl) rfl (fun K9 hK9 => ?_)
                go_simp
                have V2 := bl_alloc V1 (.cells #[.int .i64 x9.v, .slice x9.A x9.n x9.c, .int .i64 x9.v', .slice x9.A' x9.n' x9.c'] 88)
                refine hK9.out _ _ (fun _ _ => hSd _ V2) (fun _ => ?_)
                clear hK9 K9
                try simp only [Act.put, List.setIfInBounds_toArray, List.set_cons_zero, List.set_cons_succ]
                replace O1 := Kind.Own.below KQ.ok O1 (bl_alloc (Below.refl _ _) (.cells #[.int .i64 x9.v, .slice x9.A x9.n x9.c, .int .i64 x9.v', .slice x9.A' x9.n' x9.c'] 88))
                obtain ⟨v6, W6, hrun6, O2, hgr6⟩ := appg1 (c := 1) (g := y1.heap.size) KQ.ok 83 _ 64 info_rat Tryz.underlying83 rfl (by omega) O1 x9 sm.2 _ (blk_at _ rfl) rfl (RC.Is.below t9.2 V2) (by omega) V2.size
                have V6 : Below W1.heap.size W1 W6 := below_of_grown V2 hgr6 V2.size (fun b hb => by have := O1.ge b hb; (try simp at this); omega)
                have HR6 := Lib.hid hrun6
                clear hrun6
                refine wpU_one (n := 11) (i := 6) (by kernel_rfl) rfl (fun K9 hK9 => ?_)
                refine oper_ap rfl (.tmp 58) (.tmp 61) 83 (by rfl) _ _ (by rfl) (by rfl) _ (by rfl) _ _ HR6.out ?_
                refine hK9.out _ _ (fun _ _ => hSd _ V6) (fun _ => ?_)
                clear hK9 K9
                try simp only [Act.put, List.setIfInBounds_toArray, List.set_cons_zero, List.set_cons_succ]
                refine wpU_one (n := 11) (i := 7) (by kernel_rfl) rfl (fun K9 hK9 => ?_)
                go_simp
                refine (wholei_calls 1 _ (by decide) (by decide)).mono ?_
                rintro e y7 ⟨⟨v7, A7, n7, c7, v7', A7', n7', c7', rfl, t7⟩, hB7⟩
                have V7 := bl_then V6 hB7
                refine hK9.out _ _ (fun _ _ => hSd _ V7) (fun _ => ?_)
                clear hK9 K9
                try simp only [Act.put, List.setIfInBounds_toArray, List.set_cons_zero, List.set_cons_succ]
                refine wpU_one (n := 11) (i := 8) (by kernel_rfl) rfl (fun K9 hK9 => ?_)
                go_simp
                have V8 := bl_alloc V7 (.cells #[.int .i64 v7, .slice A7 n7 c7, .int .i64 v7', .slice A7' n7' c7'] 88)
                refine hK9.out _ _ (fun _ _ => hSd _ V8) (fun _ => ?_)
                clear hK9 K9
                try simp only [Act.put, List.setIfInBounds_toArray, List.set_cons_zero, List.set_cons_succ]
                have O3 := Kind.Own.below KQ.ok O2 (bl_alloc hB7 (.cells #[.int .i64 v7, .slice A7 n7 c7, .int .i64 v7', .slice A7' n7' c7'] 88))
                have t8 : KQ.Is (y7.alloc (.cells #[.int .i64 v7, .slice A7 n7 c7, .int .i64 v7', .slice A7' n7' c7'] 88)) ⟨v7, A7, n7, c7, v7', A7', n7', c7'⟩ (((1 : Int) : Rat)) := RatV.below t7 (bl_alloc (Below.refl _ _) _)
                have HG6 := O2.ge
                obtain ⟨v9, W9, hrun9, O4, hgr9⟩ := appg1 (c := 1) (g := y7.heap.size) KQ.ok 83 _ 64 info_rat Tryz.underlying83 rfl (by omega) O3 ⟨v7, A7, n7, c7, v7', A7', n7', c7'⟩ (((1 : Int) : Rat)) _ (blk_at _ rfl) rfl t8 (by omega) V8.size
                have V9 : Below W1.heap.size W1 W9 := below_of_grown V8 hgr9 V8.size (fun b hb => by have := O3.ge b hb; omega)
                have HR9 := Lib.hid hrun9
                clear hrun9
                refine wpU_one (n := 11) (i := 9) (by kernel_rfl) rfl (fun K9 hK9 => ?_)
                refine oper_ap rfl (.tmp 62) (.tmp 64) 83 (by rfl) _ _ (by rfl) (by rfl) _ (by rfl) _ _ HR9.out ?_
                refine hK9.out _ _ (fun _ _ => hSd _ V9) (fun _ => ?_)
                clear hK9 K9
                try simp only [Act.put, List.setIfInBounds_toArray, List.set_cons_zero, List.set_cons_succ]
                obtain ⟨A8, c8, rfl, hrd⟩ := KQ.rdQ O4 (by omega)
                rw [HQE.out] at hrd
                refine wpU_one (n := 11) (i := 10) (by kernel_rfl) rfl (fun K9 hK9 => ?_)
                go_simp
                refine (scaled_calls A8 (n + 1 + 1) c8 (cbQ n F M) _ hrd 20000 HQS.out (by omega)).mono ?_
                rintro e y10 ⟨⟨gs, cap, rfl, OJ⟩, hB10⟩
                have V10 := bl_then V9 hB10
                refine hK9.out _ _ (fun _ _ => hSd _ V10) (fun _ => ?_)
                clear hK9 K9
                try simp only [Act.put, List.setIfInBounds_toArray, List.set_cons_zero, List.set_cons_succ]
                refine wpU_one (n := 11) (i := 11) (by kernel_rfl) rfl (fun K9 hK9 => ?_)
                go_simp
                refine hK9.out _ _ (fun _ h => absurd rfl h) (fun _ => ?_)
                clear hK9 K9
                try simp only [Act.put, List.setIfInBounds_toArray, List.set_cons_zero, List.set_cons_succ]
                refine wpU_done (by kernel_rfl) ?_ _
                go_wp2
                go_meet
                case rel => exact ⟨gs, cap, _, rfl, OJ, V10⟩
              · go_simp
                have V1 : Below W1.heap.size W1 (W1.drew.alloc (.cells #[.int .i64 x9.v, .slice x9.A x9.n x9.c, .int .i64 x9.v', .slice x9.A' x9.n' x9.c'] 88)) := bl_alloc (bl_drew (Below.refl _ _)) _
                refine hK9.out _ _ (fun _ _ => hSd _ V1) (fun _ => ?_)
                clear hK9 K9
                try simp only [Act.put, List.setIfInBounds_toArray, List.set_cons_zero, List.set_cons_succ]
                refine wpU_one (n := 11) (i := 2) (by kernel_rfl) rfl (fun K9 hK9 => ?_)
                go_simp
                refine (clone_calls A9 n c9 sm.1 _ (t9.1.below V1)).mono ?_
                rintro e y1 ⟨⟨v1, rfl, O1⟩, hB1⟩
                have V2 : Below W1.heap.size W1 y1 := bl_then V1 hB1
                replace O1 : KQ.Own y1 W1.heap.size v1 n sm.1 := Kind.Own.base2 O1 V1.size
                have EA : y1.heap[W1.heap.size]? = some (.cells #[.int .i64 x9.v, .slice x9.A x9.n x9.c, .int .i64 x9.v', .slice x9.A' x9.n' x9.c'] 88 (0, 0)) := blk_below (blk_at (W := W1.drew) _ rfl) hB1
                refine hK9.out _ _ (fun _ _ => hSd _ V2) (fun _ => ?_)
                clear hK9 K9
                try simp only [Act.put, List.setIfInBounds_toArray, List.set_cons_zero, List.set_cons_succ]
                obtain ⟨v6, W6, hrun6, O2, hgr6⟩ := appg1 (c := 1) (g := W1.heap.size) KQ.ok 83 _ 64 info_rat Tryz.underlying83 rfl (by omega) O1 x9 sm.2 _ EA rfl (RC.Is.below t9.2 V2) (by omega) V2.size
                have V6 : Below W1.heap.size W1 W6 := below_of_grown V2 hgr6 V2.size (fun b hb => by have := O1.ge b hb; (try simp at this); omega)
                have HR6 := Lib.hid hrun6
                clear hrun6
                refine wpU_one (n := 11) (i := 6) (by kernel_rfl) rfl (fun K9 hK9 => ?_)
                refine oper_ap rfl (.tmp 58) (.tmp 61) 83 (by rfl) _ _ (by rfl) (by rfl) _ (by rfl) _ _ HR6.out ?_
                refine hK9.out _ _ (fun _ _ => hSd _ V6) (fun _ => ?_)
                clear hK9 K9
                try simp only [Act.put, List.setIfInBounds_toArray, List.set_cons_zero, List.set_cons_succ]
                refine wpU_one (n := 11) (i := 7) (by kernel_rfl) rfl (fun K9 hK9 => ?_)
                go_simp
                refine (wholei_calls 1 _ (by decide) (by decide)).mono ?_
                rintro e y7 ⟨⟨v7, A7, n7, c7, v7', A7', n7', c7', rfl, t7⟩, hB7⟩
                have V7 := bl_then V6 hB7
                refine hK9.out _ _ (fun _ _ => hSd _ V7) (fun _ => ?_)
                clear hK9 K9
                try simp only [Act.put, List.setIfInBounds_toArray, List.set_cons_zero, List.set_cons_succ]
                refine wpU_one (n := 11) (i := 8) (by kernel_rfl) rfl (fun K9 hK9 => ?_)
                go_simp
                have V8 := bl_alloc V7 (.cells #[.int .i64 v7, .slice A7 n7 c7, .int .i64 v7', .slice A7' n7' c7'] 88)
                refine hK9.out _ _ (fun _ _ => hSd _ V8) (fun _ => ?_)
                clear hK9 K9
                try simp only [Act.put, List.setIfInBounds_toArray, List.set_cons_zero, List.set_cons_succ]
                have O3 := Kind.Own.below KQ.ok O2 (bl_alloc hB7 (.cells #[.int .i64 v7, .slice A7 n7 c7, .int .i64 v7', .slice A7' n7' c7'] 88))
                have t8 : KQ.Is (y7.alloc (.cells #[.int .i64 v7, .slice A7 n7 c7, .int .i64 v7', .slice A7' n7' c7'] 88)) ⟨v7, A7, n7, c7, v7', A7', n7', c7'⟩ (((1 : Int) : Rat)) := RatV.below t7 (bl_alloc (Below.refl _ _) _)
                have HG6 := O2.ge
                obtain ⟨v9, W9, hrun9, O4, hgr9⟩ := appg1 (c := 1) (g := y7.heap.size) KQ.ok 83 _ 64 info_rat Tryz.underlying83 rfl (by omega) O3 ⟨v7, A7, n7, c7, v7', A7', n7', c7'⟩ (((1 : Int) : Rat)) _ (blk_at _ rfl) rfl t8 (by omega) V8.size
                have V9 : Below W1.heap.size W1 W9 := below_of_grown V8 hgr9 V8.size (fun b hb => by have := O3.ge b hb; omega)
                have HR9 := Lib.hid hrun9
                clear hrun9
                refine wpU_one (n := 11) (i := 9) (by kernel_rfl) rfl (fun K9 hK9 => ?_)
                refine oper_ap rfl (.tmp 62) (.tmp 64) 83 (by rfl) _ _ (by rfl) (by rfl) _ (by rfl) _ _ HR9.out ?_
                refine hK9.out _ _ (fun _ _ => hSd _ V9) (fun _ => ?_)
                clear hK9 K9
                try simp only [Act.put, List.setIfInBounds_toArray, List.set_cons_zero, List.set_cons_succ]
                obtain ⟨A8, c8, rfl, hrd⟩ := KQ.rdQ O4 (by omega)
                rw [HQE.out] at hrd
                refine wpU_one (n := 11) (i := 10) (by kernel_rfl) rfl (fun K9 hK9 => ?_)
                go_simp
                refine (scaled_calls A8 (n + 1 + 1) c8 (cbQ n F M) _ hrd 20000 HQS.out (by omega)).mono ?_
                rintro e y10 ⟨⟨gs, cap, rfl, OJ⟩, hB10⟩
                have V10 := bl_then V9 hB10
                refine hK9.out _ _ (fun _ _ => hSd _ V10) (fun _ => ?_)
                clear hK9 K9
                try simp only [Act.put, List.setIfInBounds_toArray, List.set_cons_zero, List.set_cons_succ]
                refine wpU_one (n := 11) (i := 11) (by kernel_rfl) rfl (fun K9 hK9 => ?_)
                go_simp
                refine hK9.out _ _ (fun _ h => absurd rfl h) (fun _ => ?_)
                clear hK9 K9
                try simp only [Act.put, List.setIfInBounds_toArray, List.set_cons_zero, List.set_cons_succ]
                refine wpU_done (by kernel_rfl) ?_ _
                go_wp2
                go_meet
                case rel => exact ⟨gs, cap, _, rfl, OJ, V10⟩
            case rest =>
              obtain ⟨gs, cap, base, rfl, OJ, hBc⟩ := hcut
              replace az := blk_below az hBc
              replace B0 := bl_then B0 hBc
              clear hBc a9 t9 lg9
              have HLL : Hid ((scl (cbQ n F M)).length = n + 1 + 1) := Lib.hid (by rw [scl_len]; exact HQL.out)
              clear HQE HQL HQS
              generalize scl (cbQ n F M) = L1 at *
              obtain ⟨ci, hci, qi⟩ := made_i n (by omega)
              have OI := hci wc wc.heap.size wc.heap.size rfl (Nat.le_refl _)
              obtain ⟨cur, hcur, hcs⟩ : ∃ cur : Array Value, ((wc.alloc (.cells ci 3)).heap[wc.heap.size]? = some (.cells cur 3 (0, 0))) ∧ cur.size = n := ⟨ci, blk_at _ rfl, by
                obtain ⟨_, A2, c2, hv, hr, _⟩ := RdI.own OI
                rcases OI.2 with ⟨h0, _⟩ | ⟨g', cap', cur', hv', hb', hg', hcap, hsz, hsize, _⟩
                · cases h0
                · cases hv'
                  have e := (blk_at (W := wc) (.cells ci 3) rfl).symm.trans hg'
                  cases e
                  rw [hsize, Nat.mul_one]⟩
              clear hci OI
              have hzw := blk_lt az
              have a13 : (((wc.alloc (.cells ci 3)).alloc (.cells #[.slice (some ⟨wc.heap.size, 0, none⟩) n n, .int .i64 0] 44)).alloc (.cells #[.int .i64 0, .int .i64 0, .int .i64 0, .int .i64 0, .int .i64 0, .int .i64 0, .int .i64 0, .int .i64 0, .int .i64 0, .int .i64 0] 114)).heap[wc.heap.size + 1]? = some (.cells #[.slice (some ⟨wc.heap.size, 0, none⟩) n n, .int .i64 0] 44 (0, 0)) := blk_alloc (blk_at _ (by simp)) _
              have a14 : (((wc.alloc (.cells ci 3)).alloc (.cells #[.slice (some ⟨wc.heap.size, 0, none⟩) n n, .int .i64 0] 44)).alloc (.cells #[.int .i64 0, .int .i64 0, .int .i64 0, .int .i64 0, .int .i64 0, .int .i64 0, .int .i64 0, .int .i64 0, .int .i64 0, .int .i64 0] 114)).heap[wc.heap.size + 1 + 1]? = some (.cells #[.int .i64 0, .int .i64 0, .int .i64 0, .int .i64 0, .int .i64 0, .int .i64 0, .int .i64 0, .int .i64 0, .int .i64 0, .int .i64 0] 114 (0, 0)) := blk_at _ (by simp)
              replace hcur := blk_alloc (blk_alloc hcur (.cells #[.slice (some ⟨wc.heap.size, 0, none⟩) n n, .int .i64 0] 44)) (.cells #[.int .i64 0, .int .i64 0, .int .i64 0, .int .i64 0, .int .i64 0, .int .i64 0, .int .i64 0, .int .i64 0, .int .i64 0, .int .i64 0] 114)
              have BX : Below wc.heap.size wc (((wc.alloc (.cells ci 3)).alloc (.cells #[.slice (some ⟨wc.heap.size, 0, none⟩) n n, .int .i64 0] 44)).alloc (.cells #[.int .i64 0, .int .i64 0, .int .i64 0, .int .i64 0, .int .i64 0, .int .i64 0, .int .i64 0, .int .i64 0, .int .i64 0, .int .i64 0] 114)) := bl_alloc (bl_alloc (bl_alloc (Below.refl _ _) _) _) _
              have hs2 : (((wc.alloc (.cells ci 3)).alloc (.cells #[.slice (some ⟨wc.heap.size, 0, none⟩) n n, .int .i64 0] 44)).alloc (.cells #[.int .i64 0, .int .i64 0, .int .i64 0, .int .i64 0, .int .i64 0, .int .i64 0, .int .i64 0, .int .i64 0, .int .i64 0, .int .i64 0] 114)).heap.size = wc.heap.size + 1 + 1 + 1 := by simp
              replace az := blk_below az BX
              replace B0 := bl_then B0 BX
              have hgs := OJ.ge.2
              replace OJ := OJ.below BX
              go_upto_region 14 with (fail)
              clear qi BX
              generalize ((wc.alloc (.cells ci 3)).alloc (.cells #[.slice (some ⟨wc.heap.size, 0, none⟩) n n, .int .i64 0] 44)).alloc (.cells #[.int .i64 0, .int .i64 0, .int .i64 0, .int .i64 0, .int .i64 0, .int .i64 0, .int .i64 0, .int .i64 0, .int .i64 0, .int .i64 0] 114) = W2 at *
              have hg13 : wc.heap.size < wc.heap.size + 1 := by omega
              generalize hgq : wc.heap.size = gq at *
              have hzq : w.heap.size < gq := hzw
              have hsq : gs < gq := hgs
              clear hgq hzw hgs hg13
              have HA0 : Hid ((ints .i64 (uptoi (fun j => L1.getD j 0) 10 0)).toArray = #[.int .i64 0, .int .i64 0, .int .i64 0, .int .i64 0, .int .i64 0, .int .i64 0, .int .i64 0, .int .i64 0, .int .i64 0, .int .i64 0]) := Lib.hid (by rw [← uptoi_zero]; rfl)
              rw [← HA0.out] at a14
              clear HA0
              have HAZ := Lib.hid az
              have HB0 := Lib.hid B0
              have HOJ := Lib.hid OJ
              have HA13 := Lib.hid a13
              have HCUR := Lib.hid hcur
              have HA14 := Lib.hid a14
              clear az B0 OJ a13 hcur
              go_wp2_with fail
              go_loopw [72] (fun i wr => ∃ kk : Nat, kk ≤ n + 1 + 1 ∧ i = .int .i64 kk ∧ Hid (∀ j, j < kk → mid (L1.getD j 0)) ∧ wr.heap[gq + 1 + 1]? = some (.cells (ints .i64 (uptoi (fun j => L1.getD j 0) 10 kk)).toArray 114 (0, 0)) ∧ Below (gq + 1 + 1) W2 wr) (fun i _ => n + 1 + 1 - (intOf i).toNat)
              case atStart => exact ⟨0, Nat.zero_le _, rfl, Lib.hid fun j hj => absurd hj (by omega), a14, Below.refl _ _⟩
              case round =>
                clear a14
                obtain ⟨kk, hkk, rfl, HMID, a14, hBx⟩ := hrel
                by_cases hlt : kk < n + 1 + 1
                · have hk2 : Kp 172 W2 wr := kp_under hs2 HA14.out hBx (by decide)
                  have OJ := HOJ.out.far (w' := wr) (hBx.block gs (by omega)) hk2
                  obtain ⟨y, p1, p2, hy⟩ := OJ.at kk hlt
                  have hmem : L1.getD kk 0 ∈ L1 := mem_getD (by rw [HLL.out]; exact hlt)
                  have HM2 : Hid (mid (L1.getD kk 0) → ∀ j, j < kk + 1 → mid (L1.getD j 0)) := Lib.hid fun e j hj => by
                    rcases Nat.lt_or_ge j kk with h | h
                    · exact HMID.out j h
                    · have : j = kk := by omega
                      rw [this]; exact e
                  have HNM : Hid (¬ mid (L1.getD kk 0) → E9 = (([], 0), 0, 3)) := Lib.hid fun e => HFULL.out fun hall => e (hall _ hmem)
                  have HST : Hid ((ints .i64 (uptoi (fun j => L1.getD j 0) 10 kk)).toArray.setIfInBounds kk (.int .i64 (L1.getD kk 0)) = (ints .i64 (uptoi (fun j => L1.getD j 0) 10 (kk + 1))).toArray) := Lib.hid (by
                    rw [List.setIfInBounds_toArray]
                    congr 1
                    unfold ints
                    rw [← List.map_set, uptoi_set (fun j => L1.getD j 0) 10 kk (by omega)])
                  have hsz : kk < ((ints .i64 (uptoi (fun j => L1.getD j 0) 10 kk)).toArray).size := by simp [ints, uptoi]; omega
                  obtain ⟨u, hu⟩ : ∃ u, (ints .i64 (uptoi (fun j => L1.getD j 0) 10 kk)).toArray[kk]? = some u := ⟨_, Array.getElem?_eq_getElem hsz⟩
                  clear OJ hmem hk2 hsz
                  have hy2 : IntV wr y.v y.A y.n y.c (L1.getD kk 0) := hy
                  clear hy
                  generalize L1.getD kk 0 = z at *
                  have hy3 := IntV.below hy2 (bl_alloc (Below.refl _ _) (.cells #[.int .i64 y.v, .slice y.A y.n y.c] 86))
                  have a16 : (wr.alloc (.cells #[.int .i64 y.v, .slice y.A y.n y.c] 86)).heap[wr.heap.size]? = some (.cells #[.int .i64 y.v, .slice y.A y.n y.c] 86 (0, 0)) := blk_at _ rfl
                  replace a14 := blk_alloc a14 (.cells #[.int .i64 y.v, .slice y.A y.n y.c] 86)
                  have hB2 : Below (gq + 1 + 1) W2 (wr.alloc (.cells #[.int .i64 y.v, .slice y.A y.n y.c] 86)) := hBx.trans (Below.mono (bl_alloc (Below.refl _ _) _) (by have := hBx.size; omega))
                  have hk0 : (0 : Int) ≤ (kk : Int) := by omega
                  have hkn : (kk : Int) < ((n + 1 + 1 : Nat) : Int) := by omega
                  have hk10 : (kk : Int) < 10 := by omega
                  obtain ⟨q1, q2, q3, q4⟩ := bx2 a16
                  clear hy2
                  by_cases hmid : mid z
                  · have HMN := Lib.hid (HM2.out hmid)
                    obtain ⟨hm1, hm2⟩ := hmid
                    go_wp2_with fail
                    refine (int_yes y.v y.A y.n y.c z 1152921504606846976 _ hy3 hm1 hm2 (by decide)).mono ?_
                    rintro e w5 ⟨rfl, hB5⟩
                    replace a14 := blk_below a14 hB5
                    have hB6 : Below (gq + 1 + 1) W2 w5 := hB2.trans (hB5.mono (by have := hB2.size; omega))
                    have V1 := blk_set a14 kk (.int .i64 z)
                    rw [HST.out] at V1
                    have HV1 := Lib.hid V1
                    have HV2 := Lib.hid (hB6.setCell (p := ⟨gq + 1 + 1, kk, none⟩) (Nat.le_refl _) (.int .i64 z))
                    have r1 := (blk_cell a14 kk).1.trans hu
                    have r2 := (blk_cell a14 kk).2
                    clear V1 hB6 hB5 hB2 hBx a16 q1 q2 q3 q4 hy3 p1 p2 a14
                    go_wp2_with fail
                    go_roundw
                    case rel => exact ⟨kk + 1, hlt, by go_num, HMN, HV1.out, HV2.out⟩
                    case measure => simp [intOf]; omega
                  · have hy := HNM.out hmid
                    subst hy
                    go_wp2_with fail
                    refine (int_no y.v y.A y.n y.c z 1152921504606846976 _ hy3 (by unfold mid at hmid; omega) (by decide) (by decide)).mono ?_
                    rintro e w5 ⟨rfl, hB5⟩
                    have hB6 : Below (gq + 1 + 1) W2 w5 := hB2.trans (hB5.mono (by have := hB2.size; omega))
                    have az : w5.heap[w.heap.size]? = some (.cells #[.slice none 0 0, .int .i64 0] 44 (0, 0)) := (hB6.block _ (by omega)).trans HAZ.out
                    have B0 : Below w.heap.size w w5 := HB0.out.trans (hB6.mono (by omega))
                    clear hB6 hB5 hB2 hBx a16 q1 q2 q3 q4 hy3 p1 p2 a14 hmid
                    have V1 := blk_set2 az (.slice none 0 0) (.int .i64 0)
                    have V2 := bl_set (bl_set B0 (p := ⟨w.heap.size, 0, none⟩) (Nat.le_refl _) (.slice none 0 0)) (p := ⟨w.heap.size, 1, none⟩) (Nat.le_refl _) (.int .i64 0)
                    obtain ⟨z1, z2, z3, z4⟩ := bx2 az
                    go_wp2
                    refine bodyPost_ret (results_cell_tmp2_row rfl _ _ w.heap.size 44 #[.slice none 0 0, .int .i64 0] (0, 0) _ _ _ rfl V1 Tryz.underlying44 rfl (by kernel_rfl) rfl rfl) rfl ?_
                    exact ⟨⟨_, rfl, _, _, _, rfl, rfl, by omega, fun h => absurd h (by omega)⟩, V2⟩
                · have e : n + 1 + 1 = kk := by omega
                  subst e
                  have hE := HYES.out fun z hz => by
                    obtain ⟨j, hj, rfl⟩ := List.getElem_of_mem hz
                    have := HMID.out j (by rw [← HLL.out]; exact hj)
                    rwa [List.getD_eq_getElem?_getD, List.getElem?_eq_getElem hj] at this
                  subst hE
                  have az : wr.heap[w.heap.size]? = some (.cells #[.slice none 0 0, .int .i64 0] 44 (0, 0)) := (hBx.block _ (by omega)).trans HAZ.out
                  have B0 : Below w.heap.size w wr := HB0.out.trans (hBx.mono (by omega))
                  have a13 : wr.heap[gq + 1]? = some (.cells #[.slice (some ⟨gq, 0, none⟩) n n, .int .i64 0] 44 (0, 0)) := (hBx.block _ (by omega)).trans HA13.out
                  have hcur : wr.heap[gq]? = some (.cells cur 3 (0, 0)) := (hBx.block _ (by omega)).trans HCUR.out
                  have hat : ∀ j, j < n + 1 + 1 → wr.cell? ⟨gq + 1 + 1, j, none⟩ = some (.int .i64 (L1.getD j 0)) := fun j hj => by
                    rw [(blk_cell a14 j).1, List.getElem?_toArray]
                    unfold ints uptoi
                    rw [List.getElem?_map, List.getElem?_map, List.getElem?_range (by omega)]
                    simp [hj]
                  clear HYES HFULL HMID HAZ HB0 HOJ HA13 HCUR HA14 hBx
                  obtain ⟨f1, f2, f3, f4⟩ := bx2 a13
                  have hn0 : (0 : Int) ≤ (n : Int) := by omega
                  have hn10 : (n : Int) ≤ 10 := by omega
                  go_upto_region 22 with (fail)
                  go_still_tail 4, (by kernel_rfl)
                  change wpList _ _ _ _ _ wr.drew
                  have hil : (ints .i64 (L1.take n)).length = n := by rw [ints_length, List.length_take, HLL.out]; omega
                  have hnew : (wr.drew.setRow gq (cur.toList.take 0 ++ (ints .i64 (L1.take n) ++ cur.toList.drop (0 + (ints .i64 (L1.take n)).length))).toArray).heap[gq]? = some (.cells (ints .i64 (L1.take n)).toArray 3 (0, 0)) := by
                    rw [setRow_heap _ _ _ _ _ _ (blk_drew hcur), hil, List.take_zero, List.nil_append, List.drop_eq_nil_of_le (by rw [Array.length_toList, hcs]; omega), List.append_nil]
                  have hoth : ∀ k, k ≠ gq → (wr.drew.setRow gq (cur.toList.take 0 ++ (ints .i64 (L1.take n) ++ cur.toList.drop (0 + (ints .i64 (L1.take n)).length))).toArray).heap[k]? = wr.heap[k]? := fun k hk => setRow_other _ _ _ _ hk
                  have hBr : Below w.heap.size w (wr.drew.setRow gq (cur.toList.take 0 ++ (ints .i64 (L1.take n) ++ cur.toList.drop (0 + (ints .i64 (L1.take n)).length))).toArray) := below_setRow (bl_drew B0) (by omega) _
                  refine wpList_copy_own rfl (.tmp 90) (.tmp 92) 42 42 rfl 3 Tryz.underlying42 (by kernel_rfl) gq 0 n n ⟨gq + 1 + 1, 0, none⟩ n 10 (by rfl) (by rfl) cur 3 (blk_drew hcur) (ints .i64 (L1.take n)) (by rw [hil]; exact (Nat.min_self n).symm) (fun j v hj => ?_) (by rw [hil, hcs]; omega) (fun v hv => ?_) ?_
                  · have hjn : j < n := by rw [← hil]; exact (List.getElem?_eq_some_iff.1 hj).1
                    have e1 := hat j (by omega)
                    have e2 : (ints .i64 (L1.take n))[j]? = some (.int .i64 (L1.getD j 0)) := by
                      unfold ints
                      rw [List.getElem?_map, List.getElem?_take_of_lt hjn, List.getD_eq_getElem?_getD, List.getElem?_eq_getElem (by rw [HLL.out]; omega)]
                      rfl
                    rw [e2] at hj
                    cases hj
                    rw [show (⟨gq + 1 + 1, 0, none⟩ : Addr).add j = ⟨gq + 1 + 1, j, none⟩ by unfold Addr.add; split; (· rename_i h; rw [h]); (· simp)]
                    exact e1
                  · obtain ⟨x, _, rfl⟩ := List.mem_map.1 hv
                    rfl
                  · have az3 := (hoth w.heap.size (by omega)).trans az
                    have a133 := (hoth (gq + 1) (by omega)).trans a13
                    have a143 := (hoth (gq + 1 + 1) (by omega)).trans a14
                    generalize wr.drew.setRow gq (cur.toList.take 0 ++ (ints .i64 (L1.take n) ++ cur.toList.drop (0 + (ints .i64 (L1.take n)).length))).toArray = W5 at *
                    have hat5 : ∀ j, j < n + 1 + 1 → W5.cell? ⟨gq + 1 + 1, j, none⟩ = some (.int .i64 (L1.getD j 0)) := fun j hj => by
                      rw [(blk_cell a143 j).1, ← (blk_cell a14 j).1]; exact hat j hj
                    clear hat f1 f2 f3 f4 az a13 a14 hoth B0 hcur
                    obtain ⟨f1, f2, f3, f4⟩ := bx2 a133
                    have c0 := hat5 n (by omega)
                    have hn10' : (n : Int) < 10 := by omega
                    have V1 := blk_set a133 1 (.int .i64 (L1.getD n 0))
                    have V2 := blk_far (i := 1) (v := .int .i64 (L1.getD n 0)) az3 (show w.heap.size ≠ gq + 1 by omega)
                    have V3 := blk_far (i := 1) (v := .int .i64 (L1.getD n 0)) a143 (show gq + 1 + 1 ≠ gq + 1 by omega)
                    have V4 := blk_far (i := 1) (v := .int .i64 (L1.getD n 0)) hnew (show gq ≠ gq + 1 by omega)
                    have V5 := hBr.setCell (p := ⟨gq + 1, 1, none⟩) (by show w.heap.size ≤ gq + 1; omega) (.int .i64 (L1.getD n 0))
                    have c1 : (W5.setCell ⟨gq + 1, 1, none⟩ (.int .i64 (L1.getD n 0))).cell? ⟨gq + 1 + 1, n + 1, none⟩ = some (.int .i64 (L1.getD (n + 1) 0)) := by
                      rw [(blk_cell V3 (n + 1)).1, ← (blk_cell a143 (n + 1)).1]; exact hat5 (n + 1) (by omega)
                    have HV1 := Lib.hid V1
                    have HV2 := Lib.hid V2
                    have HV4 := Lib.hid V4
                    have HV5 := Lib.hid V5
                    have HC1 := Lib.hid c1
                    clear V1 V2 V3 V4 V5 c1 hat5 hnew hBr az3 a143 a133
                    generalize hzn : L1.getD n 0 = zn at *
                    generalize hzm : L1.getD (n + 1) 0 = zm at *
                    have HZN := Lib.hid hzn
                    have HZM := Lib.hid hzm
                    clear hzn hzm
                    go_upto_region 24 with (fail)
                    generalize W5.setCell ⟨gq + 1, 1, none⟩ (.int .i64 zn) = W6 at *
                    have hwr : IntKind.i64.wrap ((n : Int) + 1) = (n : Int) + 1 := by rw [IntKind.wrap_i64]; omega
                    have hwt : ((n : Int) + 1).toNat = n + 1 := by omega
                    have hn1 : (n : Int) + 1 < 10 := by omega
                    have hn01 : (0 : Int) ≤ (n : Int) + 1 := by omega
                    obtain ⟨l1, l2, l3, l4⟩ := bx2 (blk_drew HV2.out)
                    have hS0 : (W6.drew.cell? ⟨gq + 1, 0, none⟩ = some (Value.slice (some ⟨gq, 0, none⟩) n n) ∧ W6.drew.cell? ⟨gq + 1, 1, none⟩ = some (Value.int .i64 zn)) ∧ W6.drew.cell? ⟨gq + 1 + 1, n + 1, none⟩ = some (Value.int .i64 zm) := And.intro (qx2 (blk_drew HV1.out)) HC1.out
                    have hS5 : (((W6.drew.setCell ⟨w.heap.size, 0, none⟩ (.slice (some ⟨gq, 0, none⟩) n n)).setCell ⟨w.heap.size, 1, none⟩ (.int .i64 zn)).cell? ⟨gq + 1, 0, none⟩ = some (Value.slice (some ⟨gq, 0, none⟩) n n) ∧ ((W6.drew.setCell ⟨w.heap.size, 0, none⟩ (.slice (some ⟨gq, 0, none⟩) n n)).setCell ⟨w.heap.size, 1, none⟩ (.int .i64 zn)).cell? ⟨gq + 1, 1, none⟩ = some (Value.int .i64 zn)) ∧ ((W6.drew.setCell ⟨w.heap.size, 0, none⟩ (.slice (some ⟨gq, 0, none⟩) n n)).setCell ⟨w.heap.size, 1, none⟩ (.int .i64 zn)).cell? ⟨gq + 1 + 1, n + 1, none⟩ = some (Value.int .i64 zm) := And.intro (qx2 (blk_far (blk_far (blk_drew HV1.out) (show gq + 1 ≠ w.heap.size by omega)) (show gq + 1 ≠ w.heap.size by omega))) (((cell_farN (W6.drew) (show gq + 1 + 1 ≠ w.heap.size by omega) _ _ (n + 1))).trans HC1.out)
                    have V1 := blk_set2 (blk_drew HV2.out) (.slice (some ⟨gq, 0, none⟩) n n) (.int .i64 zn)
                    have V2 := bl_set (bl_set (bl_drew HV5.out) (p := ⟨w.heap.size, 0, none⟩) (Nat.le_refl _) (.slice (some ⟨gq, 0, none⟩) n n)) (p := ⟨w.heap.size, 1, none⟩) (Nat.le_refl _) (.int .i64 zn)
                    have V4 := blk_far (i := 1) (v := .int .i64 zn) (blk_far (i := 0) (v := .slice (some ⟨gq, 0, none⟩) n n) (blk_drew HV4.out) (show gq ≠ w.heap.size by omega)) (show gq ≠ w.heap.size by omega)
                    have HRI : Hid (RdI ((W6.drew.setCell ⟨w.heap.size, 0, none⟩ (.slice (some ⟨gq, 0, none⟩) n n)).setCell ⟨w.heap.size, 1, none⟩ (.int .i64 zn)) 3 .i64 (some ⟨gq, 0, none⟩) n (L1.take n)) := Lib.hid ⟨by rw [List.length_take, HLL.out]; omega, by omega, fun _ => ⟨gq, 0, _, _, rfl, V4, fun j hj => by
                      rw [Nat.zero_add, List.getElem?_toArray]
                      unfold ints
                      rw [List.getElem?_map, List.getElem?_take_of_lt hj, List.getD_eq_getElem?_getD, List.getElem?_take_of_lt hj, List.getElem?_eq_getElem (by rw [HLL.out]; omega)]
                      rfl⟩⟩
                    have HV1' := Lib.hid V1
                    have HV2' := Lib.hid V2
                    refine wp_region_U (n := 6) (fun W => (W.cell? ⟨gq + 1, 0, none⟩ = some (Value.slice (some ⟨gq, 0, none⟩) n n) ∧ W.cell? ⟨gq + 1, 1, none⟩ = some (Value.int .i64 zn)) ∧ W.cell? ⟨gq + 1 + 1, n + 1, none⟩ = some (Value.int .i64 zm)) (by kernel_rfl) ?_
                    generalize W6.drew = W7 at *
                    refine wpU_take (n := 6) (i := 0) (v := ?_) (by decide) (by kernel_rfl) rfl (by kernel_rfl) (by kernel_rfl) (by kernel_rfl) (fun _ _ _ h => h) (by kernel_rfl) (Or.inl ⟨by rfl, ?_⟩) hS0 ?_
                    rotate_left
                    · intro w' hSw
                      (try dsimp only at hSw)
                      go_simp
                      (try with_reducible rfl)
                    try simp only [Act.put, List.setIfInBounds_toArray, List.set_cons_zero, List.set_cons_succ]
                    refine wpU_take (n := 6) (i := 1) (v := ?_) (by decide) (by kernel_rfl) rfl (by kernel_rfl) (by kernel_rfl) (by kernel_rfl) (fun _ _ _ h => h) (by kernel_rfl) (Or.inl ⟨by rfl, ?_⟩) hS0 ?_
                    rotate_left
                    · intro w' hSw
                      (try dsimp only at hSw)
                      go_simp
                      (try with_reducible rfl)
                    try simp only [Act.put, List.setIfInBounds_toArray, List.set_cons_zero, List.set_cons_succ]
                    refine wpU_take (n := 6) (i := 2) (v := ?_) (by decide) (by kernel_rfl) rfl (by kernel_rfl) (by kernel_rfl) (by kernel_rfl) (fun _ _ _ h => h) (by kernel_rfl) (Or.inl ⟨by rfl, ?_⟩) hS0 ?_
                    rotate_left
                    · intro w' hSw
                      (try dsimp only at hSw)
                      go_simp
                      (try with_reducible rfl)
                    try simp only [Act.put, List.setIfInBounds_toArray, List.set_cons_zero, List.set_cons_succ]
                    refine wpU_take (n := 6) (i := 3) (v := ?_) (by decide) (by kernel_rfl) rfl (by kernel_rfl) (by kernel_rfl) (by kernel_rfl) (fun _ _ _ h => h) (by kernel_rfl) (Or.inl ⟨by rfl, ?_⟩) hS0 ?_
                    rotate_left
                    · intro w' hSw
                      (try dsimp only at hSw)
                      go_simp
                      (try with_reducible rfl)
                    try simp only [Act.put, List.setIfInBounds_toArray, List.set_cons_zero, List.set_cons_succ]
                    refine wpU_take (n := 6) (i := 4) (v := ?_) (by decide) (by kernel_rfl) rfl (by kernel_rfl) (by kernel_rfl) (by kernel_rfl) (fun _ _ _ h => h) (by kernel_rfl) (Or.inl ⟨by rfl, ?_⟩) hS0 ?_
                    rotate_left
                    · intro w' hSw
                      (try dsimp only at hSw)
                      go_simp
                      (try with_reducible rfl)
                    try simp only [Act.put, List.setIfInBounds_toArray, List.set_cons_zero, List.set_cons_succ]
                    refine wpU_one (n := 6) (i := 5) (by kernel_rfl) rfl (fun K9 hK9 => ?_)
                    go_simp
                    refine hK9.out _ _ (fun _ _ => hS5) (fun _ => ?_)
                    clear hK9 K9
                    try simp only [Act.put, List.setIfInBounds_toArray, List.set_cons_zero, List.set_cons_succ]
                    refine wpU_one (n := 6) (i := 6) (by kernel_rfl) rfl (fun K9 hK9 => ?_)
                    go_simp
                    refine hK9.out _ _ (fun _ h => absurd rfl h) (fun _ => ?_)
                    clear hK9 K9
                    try simp only [Act.put, List.setIfInBounds_toArray, List.set_cons_zero, List.set_cons_succ]
                    refine wpU_one (n := 6) (i := 7) (by kernel_rfl) rfl (fun K9 hK9 => ?_)
                    go_simp
                    refine hK9.out _ _ (fun h => absurd h (by decide)) (fun _ => ?_)
                    clear hK9 K9
                    try simp only [Act.put, List.setIfInBounds_toArray, List.set_cons_zero, List.set_cons_succ]
                    refine wpU_done (by kernel_rfl) ?_ _
                    clear V1 V2 V4 hS0 hS5
                    go_wp2
                    refine bodyPost_ret (results_cell_tmp2_row rfl _ _ w.heap.size 44 #[.slice (some ⟨gq, 0, none⟩) n n, .int .i64 zn] (0, 0) _ _ _ rfl HV1'.out Tryz.underlying44 rfl (by kernel_rfl) rfl rfl) rfl ?_
                    have e1 := HZN.out
                    have e2 := HZM.out
                    subst e1 e2
                    exact ⟨⟨_, rfl, _, _, _, rfl, HRI.out⟩, HV2'.out⟩
      · have hy := DIM hok hok' (fun e => hmm (by rw [← L.out, ← L'.out, e]))
        subst hy
        have hmI : ((m : Int) != (m' : Int)) = true := by simpa using fun e => hmm (by omega)
        clear NO DIM YES FULL hok hok'
        have V1 := blk_set2 az (.slice none 0 0) (.int .i64 0)
        have V2 := bl_set (bl_set B0 (p := ⟨w.heap.size, 0, none⟩) (Nat.le_refl _) (.slice none 0 0)) (p := ⟨w.heap.size, 1, none⟩) (Nat.le_refl _) (.int .i64 0)
        obtain ⟨z1, z2, z3, z4⟩ := bx2 az
        go_wp2
        refine bodyPost_ret (results_cell_tmp2_row rfl _ _ w.heap.size 44 #[.slice none 0 0, .int .i64 0] (0, 0) _ _ _ rfl V1 Tryz.underlying44 rfl (by kernel_rfl) rfl rfl) rfl ?_
        exact ⟨⟨_, rfl, _, _, _, rfl, rfl, by omega, fun h => absurd h (by omega)⟩, V2⟩
    · rw [decide_eq_false hok'] at he
      subst he
      have hy := NO (fun hh => hok' hh.2)
      subst hy
      clear NO DIM YES FULL hok hok'
      have V1 := blk_set2 az (.slice none 0 0) (.int .i64 0)
      have V2 := bl_set (bl_set B0 (p := ⟨w.heap.size, 0, none⟩) (Nat.le_refl _) (.slice none 0 0)) (p := ⟨w.heap.size, 1, none⟩) (Nat.le_refl _) (.int .i64 0)
      obtain ⟨z1, z2, z3, z4⟩ := bx2 az
      go_wp2
      refine bodyPost_ret (results_cell_tmp2_row rfl _ _ w.heap.size 44 #[.slice none 0 0, .int .i64 0] (0, 0) _ _ _ rfl V1 Tryz.underlying44 rfl (by kernel_rfl) rfl rfl) rfl ?_
      exact ⟨⟨_, rfl, _, _, _, rfl, rfl, by omega, fun h => absurd h (by omega)⟩, V2⟩
  · rw [decide_eq_false hok] at he
    subst he
    have hy := NO (fun hh => hok hh.1)
    subst hy
    clear NO DIM YES FULL hok
    have V1 := blk_set2 az (.slice none 0 0) (.int .i64 0)
    have V2 := bl_set (bl_set B0 (p := ⟨w.heap.size, 0, none⟩) (Nat.le_refl _) (.slice none 0 0)) (p := ⟨w.heap.size, 1, none⟩) (Nat.le_refl _) (.int .i64 0)
    obtain ⟨z1, z2, z3, z4⟩ := bx2 az
    go_wp2
    refine bodyPost_ret (results_cell_tmp2_row rfl _ _ w.heap.size 44 #[.slice none 0 0, .int .i64 0] (0, 0) _ _ _ rfl V1 Tryz.underlying44 rfl (by kernel_rfl) rfl rfl) rfl ?_
    exact ⟨⟨_, rfl, _, _, _, rfl, rfl, by omega, fun h => absurd h (by omega)⟩, V2⟩
end Go.Proofs.YtloplmmnmehkmaaGreat

namespace Go.Proofs.YtloplmmnmehkmaaGreat
open Go.RowKit

def OkX (n : Int) (x : List (Int × Int)) : Prop := dimO n ∧ (x.length : Int) = n ∧ OkNs x
instance (n : Int) (x : List (Int × Int)) : Decidable (OkX n x) := by unfold OkX; infer_instance
/-- The value of a row at a point: the first k terms. -/
def valK (r : Rw) (x : List Rat) : Nat → Rat
  | 0 => r.2
  | k + 1 => valK r x k + r.1.getD k 0 * x.getD k 0
theorem valK_sz {r : Rw} {x : List Rat} {K : Nat} (hr : SzW K r) (hx : ∀ j, SzR K (x.getD j 0)) (k : Nat) : SzR ((2 * K + 4) * k + K) (valK r x k) := by
  induction k with
  | zero => exact hr.2.mono (by omega)
  | succ k ih =>
    have h1 := qsz_add ih (qsz_mul (hr.1 k) (hx k))
    refine h1.mono ?_
    rw [Nat.mul_succ]
    omega
set_option maxHeartbeats 40000000
set_option maxRecDepth 100000
theorem r2vpoint_calls (n : Int) (A : Option Addr) (m c : Nat) (x : List (Int × Int)) (w : World) (h : RdN w A m x) (hi : I64s x) :
    Calls Tryz.prog 21 #[.int .i64 n, .slice A m c] w fun e w' => e = .returned (.bool (decide (OkX n x))) ∧ Below w.heap.size w w' := by
  have L := Lib.hid h.1
  generalize hB : decide (OkX n x) = B
  have HB := Lib.hid hB
  clear hB
  have NO : ¬ OkX n x → B = false := fun h => by rw [← HB.out, decide_eq_false h]
  by_cases d1 : 0 ≤ n
  · by_cases d2 : n ≤ 8
    · by_cases hl : (m : Int) = n
      · have hl' : ((m : Int) == n) = true := by simp [hl]
        have hl2 : decide ((m : Int) = n) = true := decide_eq_true hl
        go_enter Tryz.func21, Tryz.ntmps21
        go_wp2_with fail
        refine (rall_calls A m c x _ h hi).mono ?_
        rintro e w3 ⟨he, hB3⟩
        have : decide (OkNs x) = B := by
          rw [← HB.out]
          apply decide_eq_decide.2
          exact ⟨fun hm => ⟨⟨d1, d2⟩, by rw [L.out]; exact hl, hm⟩, fun hm => hm.2.2⟩
        rw [this] at he
        subst he
        go_wp2
        go_ret
        exact ⟨rfl, hB3⟩
      · have hf := NO fun hh => hl (by have := hh.2.1; rw [L.out] at this; exact this)
        subst hf
        have hl2 : decide ((m : Int) = n) = false := decide_eq_false hl
        go_enter Tryz.func21, Tryz.ntmps21
        go_wp2
        go_ret
        exact ⟨rfl, Below.refl _ _⟩
    · have hf := NO fun hh => d2 hh.1.2
      subst hf
      go_enter Tryz.func21, Tryz.ntmps21
      go_wp2
      go_ret
      exact ⟨rfl, Below.refl _ _⟩
  · have hf := NO fun hh => d1 hh.1.1
    subst hf
    go_enter Tryz.func21, Tryz.ntmps21
    go_wp2
    go_ret
    exact ⟨rfl, Below.refl _ _⟩
theorem at6c {w : World} {g o : Nat} {x : JQ} (h : At6q w g o x) : w.cell? ⟨g, o, none⟩ = some (.int .i64 x.s) ∧ w.cell? ⟨g, o + 1, none⟩ = some (.bool x.g) ∧ w.cell? ⟨g, o + 2, none⟩ = some (.slice x.A x.n x.c) ∧ w.cell? ⟨g, o + 3, none⟩ = some (.int .i64 x.s') ∧ w.cell? ⟨g, o + 4, none⟩ = some (.bool x.g') ∧ w.cell? ⟨g, o + 5, none⟩ = some (.slice x.A' x.n' x.c') := h
theorem rrv_int {w : World} {s : Int} {b : Bool} {A : Option Addr} {n c : Nat} {s' : Int} {b' : Bool} {A' : Option Addr} {n' c' : Nat} {z : Int} (h : RV w s b A n c z) (h1 : RV w s' b' A' n' c' 1) : RRV w s b A n c s' b' A' n' c' (z : Rat) :=
  ⟨by rw [Rat.num_intCast]; exact h, by rw [Rat.den_intCast]; exact h1⟩
theorem far6 {W : World} {g k : Nat} {o : Obj} (h : W.heap[k]? = some o) (hk : k ≠ g) (x1 x2 x3 x4 x5 x6 : Value) : ((((((W.setCell ⟨g, 0, none⟩ x1).setCell ⟨g, 1, none⟩ x2).setCell ⟨g, 2, none⟩ x3).setCell ⟨g, 3, none⟩ x4).setCell ⟨g, 4, none⟩ x5).setCell ⟨g, 5, none⟩ x6).heap[k]? = some o :=
  q6_far h hk x1 x2 x3 x4 x5 x6
theorem RRV.al2 {w : World} {s : Int} {b : Bool} {A : Option Addr} {n c : Nat} {s' : Int} {b' : Bool} {A' : Option Addr} {n' c' : Nat} {q : Rat} (h : RRV w s b A n c s' b' A' n' c' q) (o : Obj) : RRV (w.alloc o) s b A n c s' b' A' n' c' q := h.kp ((Kp.refl _ _).alloc o)
/-- A row of integers as a row of rationals. -/
def rwZ (zs : List Int) (z : Int) : Rw := (zs.map fun x => ((x : Int) : Rat), (z : Rat))
set_option maxHeartbeats 40000000
set_option maxRecDepth 100000
theorem r2rats_calls (A : Option Addr) (m c : Nat) (X : List (Int × Int)) (w : World) (h : RdN w A m X) (hi : I64s X) (hz : ∀ x ∈ X, OkN x.1 x.2) (hm : m ≤ 500) :
    Calls Tryz.prog 32 #[.slice A m c] w fun e w' => (∃ A' c', e = .returned (.slice A' m c') ∧ RdRR w' A' m (X.map ratP)) ∧ Below w.heap.size w w' := by
  have L := Lib.hid h.1
  have HI := Lib.hid hi
  have HZ := Lib.hid hz
  clear hi hz
  go_enter Tryz.func32, Tryz.ntmps32
  have O0 := Kind.Own.nil (K := KP6) w w.heap.size
  have B0 := Below.refl w.heap.size w
  go_wp2_with fail
  go_loopw [3, 8] (fun v i wr => ∃ kk : Nat, kk ≤ m ∧ i = .int .i64 kk ∧ KP6.Own wr w.heap.size v kk ((X.take kk).map ratP) ∧ Below w.heap.size w wr) (fun _ i _ => m - (intOf i).toNat)
  case atStart => exact ⟨0, Nat.zero_le _, rfl, O0, B0⟩
  case round =>
    clear O0 B0
    obtain ⟨kk, hkk, rfl, OW, B0⟩ := hrel
    by_cases hlt : kk < m
    · obtain ⟨g, off, rfl, hg, hc⟩ := (h.below B0).2.2 (by omega)
      obtain ⟨p1, p2⟩ := hc kk hlt
      have E := Lib.hid (map_take_succ ratP X (0, 0) kk (by rw [L.out]; exact hlt))
      have hmem : X.getD kk (0, 0) ∈ X := mem_getD (by rw [L.out]; exact hlt)
      have hok := HZ.out _ hmem
      have h64 := HI.out _ hmem
      clear hc h hmem
      generalize X.getD kk (0, 0) = x1 at *
      replace OW := OW.below KP6.ok (bl_alloc (Below.refl _ _) (.cells #[.int .i64 x1.1, .int .i64 x1.2] 56))
      replace B0 := bl_alloc B0 (.cells #[.int .i64 x1.1, .int .i64 x1.2] 56)
      go_wp2_with fail
      refine (rto_calls x1.1 x1.2 _ hok).mono ?_
      rintro e w1 ⟨⟨s2, b2, A2, n2, c2, s2', b2', A2', n2', c2', rfl, t2⟩, hB1⟩
      replace OW := OW.below KP6.ok hB1
      replace B0 := bl_then B0 hB1
      clear hB1 p1 p2 hg hok h64
      replace OW := OW.below KP6.ok (bl_alloc (Below.refl _ _) (.cells #[.int .i64 s2, .bool b2, .slice A2 n2 c2, .int .i64 s2', .bool b2', .slice A2' n2' c2'] 51))
      have B1 := bl_alloc B0 (.cells #[.int .i64 s2, .bool b2, .slice A2 n2 c2, .int .i64 s2', .bool b2', .slice A2' n2' c2'] 51)
      have t3 : KP6.Is (w1.alloc (.cells #[.int .i64 s2, .bool b2, .slice A2 n2 c2, .int .i64 s2', .bool b2', .slice A2' n2' c2'] 51)) ⟨s2, b2, A2, n2, c2, s2', b2', A2', n2', c2'⟩ (ratP x1) := RRV.kp t2 ((Kp.refl _ _).alloc _)
      obtain ⟨v', W', hrun, O2, hgr⟩ := appg1 (c := 1) (g := w1.heap.size) KP6.ok 62 _ 80 info_rrat Tryz.underlying62 rfl (by omega) OW ⟨s2, b2, A2, n2, c2, s2', b2', A2', n2', c2'⟩ (ratP x1) _ (blk_at _ rfl) rfl t3 (by omega) B1.size
      rw [← E.out] at O2
      have HR := Lib.hid hrun
      have HO := Lib.hid O2
      have hOB := OW.ge
      have V2 : Hid (Below w.heap.size w W') := Lib.hid (below_of_grown B1 hgr B1.size hOB)
      clear hrun O2 hgr hOB OW B1 t2 t3
      go_wp2_with (at_builtin; refine wpList_ap rfl (.tmp 12) (.tmp 15) 62 (by rfl) _ _ (by rfl) (by rfl) _ (by rfl) _ _ HR.out ?_)
      go_roundw
      case rel => exact ⟨kk + 1, hlt, by go_num, HO.out, V2.out⟩
      case measure => simp [intOf]; omega
    · have hkn : m = kk := by omega
      subst hkn
      obtain ⟨A', c', rfl, hrd⟩ := KP6.rd OW (by omega)
      rw [List.take_of_length_le (by rw [L.out]; exact Nat.le_refl _)] at hrd
      have HRD := Lib.hid hrd
      clear OW hrd
      go_wp2
      go_ret
      exact ⟨⟨A', c', rfl, HRD.out⟩, B0⟩

theorem r2eval_calls (A : Option Addr) (n c : Nat) (x : JC) (zs : List Int) (z0 : Int) (A' : Option Addr) (c' : Nat) (X : List Rat) (w : World) (h : RdR w A n zs) (hx : x.Is w z0) (h' : RdRR w A' n X) (hn : n ≤ 8) (sr : SzW 100 (rwZ zs z0)) (sx : ∀ j, SzR 100 (X.getD j 0)) :
    Calls Tryz.prog 30 #[.agg #[.slice A n c, .int .i64 x.s, .bool x.g, .slice x.A x.n x.c], .slice A' n c'] w fun e w' => RRatR e w' (valK (rwZ zs z0) X n) ∧ Below w.heap.size w w' := by
  have LN := Lib.hid h.1
  obtain ⟨KK, hKK⟩ : ∃ KK, KK = 10000 := ⟨_, rfl⟩
  have HV0 : Hid (∀ k, k ≤ n → SzR KK (valK (rwZ zs z0) X k)) := Lib.hid fun k hk => (valK_sz sr sx k).mono (by have := Nat.mul_le_mul_left (2 * 100 + 4) (show k ≤ 8 by omega); omega)
  have HM0 : Hid (∀ k, SzR KK ((rwZ zs z0).1.getD k 0 * X.getD k 0)) := Lib.hid fun k => (qsz_mul (sr.1 k) (sx k)).mono (by omega)
  have HC0 : Hid (∀ k, SzR KK ((rwZ zs z0).1.getD k 0)) := Lib.hid fun k => (sr.1 k).mono (by omega)
  have HX0 : Hid (∀ k, SzR KK (X.getD k 0)) := Lib.hid fun k => (sx k).mono (by omega)
  have HZ : Hid (∀ k, k < n → (rwZ zs z0).1.getD k 0 = ((zs.getD k 0 : Int) : Rat)) := Lib.hid fun k hk => getD_map (fun x : Int => (x : Rat)) zs k 0 0 (by rw [LN.out]; exact hk)
  have HK0 : Hid (valK (rwZ zs z0) X 0 = (z0 : Rat)) := Lib.hid rfl
  have HKS : Hid (∀ k, valK (rwZ zs z0) X (k + 1) = valK (rwZ zs z0) X k + (rwZ zs z0).1.getD k 0 * X.getD k 0) := Lib.hid fun k => rfl
  clear sr sx
  generalize rwZ zs z0 = rr at *
  go_enter Tryz.func30, Tryz.ntmps30
  go_upto_region 1 with (fail)
  have B0 := bl_alloc (bl_alloc (Below.refl w.heap.size w) (.cells #[.slice A n c, .int .i64 x.s, .bool x.g, .slice x.A x.n x.c] 60)) (.cells #[.int .i64 0, .bool false, .slice none 0 0, .int .i64 0, .bool false, .slice none 0 0] 51)
  have a1 : ((w.alloc (.cells #[.slice A n c, .int .i64 x.s, .bool x.g, .slice x.A x.n x.c] 60)).alloc (.cells #[.int .i64 0, .bool false, .slice none 0 0, .int .i64 0, .bool false, .slice none 0 0] 51)).heap[w.heap.size]? = some (.cells #[.slice A n c, .int .i64 x.s, .bool x.g, .slice x.A x.n x.c] 60 (0, 0)) := blk_alloc (blk_at _ rfl) _
  have ar : ((w.alloc (.cells #[.slice A n c, .int .i64 x.s, .bool x.g, .slice x.A x.n x.c] 60)).alloc (.cells #[.int .i64 0, .bool false, .slice none 0 0, .int .i64 0, .bool false, .slice none 0 0] 51)).heap[w.heap.size + 1]? = some (.cells #[.int .i64 0, .bool false, .slice none 0 0, .int .i64 0, .bool false, .slice none 0 0] 51 (0, 0)) := blk_at _ (by simp)
  have hx1 : RV ((w.alloc (.cells #[.slice A n c, .int .i64 x.s, .bool x.g, .slice x.A x.n x.c] 60)).alloc (.cells #[.int .i64 0, .bool false, .slice none 0 0, .int .i64 0, .bool false, .slice none 0 0] 51)) x.s x.g x.A x.n x.c z0 := RV.kp hx (Kp.below B0)
  generalize (w.alloc (.cells #[.slice A n c, .int .i64 x.s, .bool x.g, .slice x.A x.n x.c] 60)).alloc (.cells #[.int .i64 0, .bool false, .slice none 0 0, .int .i64 0, .bool false, .slice none 0 0] 51) = W1 at *
  have l1 := blk_lt ar
  go_cut [5] (fun p wc => ∃ (go : Nat) (o : JQ), p = .pointer (some ⟨go, 0, none⟩) ∧ wc.heap[go]? = some (.cells #[.int .i64 o.s, .bool o.g, .slice o.A o.n o.c, .int .i64 o.s', .bool o.g', .slice o.A' o.n' o.c'] 51 (0, 0)) ∧ RRV wc o.s o.g o.A o.n o.c o.s' o.g' o.A' o.n' o.c' (z0 : Rat) ∧ Below W1.heap.size W1 wc ∧ W1.heap.size ≤ go)
  case first =>
    have a1_0 := a1
    have HB_0 := Below.refl W1.heap.size W1
    go_region_held3 (fun W => W.cell? ⟨w.heap.size, 0, none⟩ = some (Value.slice A n c) ∧ W.cell? ⟨w.heap.size, 1, none⟩ = some (Value.int .i64 x.s) ∧ W.cell? ⟨w.heap.size, 2, none⟩ = some (Value.bool x.g) ∧ W.cell? ⟨w.heap.size, 3, none⟩ = some (Value.slice x.A x.n x.c)) (first | (refine qxr4 (t := 60) ?_ <;> (repeat (first | with_reducible exact a1_1 | with_reducible exact a1_0 | with_reducible refine blk_alloc ?_ _ | with_reducible refine blk_drew ?_ | with_reducible refine blk_far ?_ ?_ | omega)); done) | go_keep) (first | (go_at_call 76; refine (rof_calls 1 _ (by omega) (by omega)).mono ?_; rintro e ww ⟨⟨s1, b1, A1, n1, c1, rfl, t1⟩, hB5⟩; have a1_1 : ww.heap[w.heap.size]? = some (.cells #[.slice A n c, .int .i64 x.s, .bool x.g, .slice x.A x.n x.c] 60 (0, 0)) := (by repeat (first | with_reducible exact a1_0 | with_reducible refine blk_below ?_ hB5 | with_reducible refine blk_alloc ?_ _ | with_reducible refine blk_drew ?_)); have HB_1 : Below W1.heap.size W1 ww := (by repeat (first | with_reducible exact HB_0 | with_reducible refine bl_then ?_ hB5 | with_reducible refine bl_alloc ?_ _ | with_reducible refine bl_drew ?_)); have lw9 := HB_1.size; (first | (have EA : ww.heap[W1.heap.size]? = some (.cells #[.int .i64 0, .bool false, .slice none 0 0, .int .i64 0, .bool false, .slice none 0 0] 51 (0, 0)) := blk_below (blk_drew (blk_at _ rfl)) hB5; have EX := bx6 EA; obtain ⟨⟨e1, e2, e3, e4, e5, e6⟩, e7⟩ := EX) | skip)) | fail)
    all_goals
      have hx2 := RV.below hx1 HB_1
      have hq2 := rrv_int hx2 t1
      go_wp2
      go_meet
      case rel =>
        refine ⟨_, ⟨x.s, x.g, x.A, x.n, x.c, s1, b1, A1, n1, c1⟩, rfl, ?_, ?_, ?_, ?_⟩
        · first
            | with_reducible exact blk_at _ rfl
            | with_reducible exact blk_set6 EA _ _ _ _ _ _
        · first
            | with_reducible exact RRV.al2 hq2 _
            | exact hq2.kp (kp_set6 EA _ _ _ _ _ _)
        · first
            | with_reducible exact bl_alloc HB_1 _
            | exact bl_set6 HB_1 (Nat.le_refl _) _ _ _ _ _ _
        · first | omega | simp
  case rest =>
    obtain ⟨go, o, rfl, ao, ho, HB7, lgo⟩ := hcut
    replace a1 := blk_below a1 HB7
    replace ar := blk_below ar HB7
    replace B0 := bl_then B0 HB7
    clear HB7 hx1
    have f1 := (qxr4 a1).1
    go_wp2_with fail
    clear f1 a1
    rw [← HK0.out] at ho
    go_loopw [15] (fun i wr => ∃ (kk : Nat) (o : JQ), kk ≤ n ∧ i = .int .i64 kk ∧ wr.heap[go]? = some (.cells #[.int .i64 o.s, .bool o.g, .slice o.A o.n o.c, .int .i64 o.s', .bool o.g', .slice o.A' o.n' o.c'] 51 (0, 0)) ∧ RRV wr o.s o.g o.A o.n o.c o.s' o.g' o.A' o.n' o.c' (valK rr X kk) ∧ wr.heap[w.heap.size + 1]? = some (.cells #[.int .i64 0, .bool false, .slice none 0 0, .int .i64 0, .bool false, .slice none 0 0] 51 (0, 0)) ∧ Below w.heap.size w wr) (fun i _ => n - (intOf i).toNat)
    case atStart => exact ⟨0, o, Nat.zero_le _, rfl, ao, ho, ar, B0⟩
    case round =>
      clear ao ho ar B0
      clear o
      obtain ⟨kk, o, hkk, rfl, ao, ho, ar, B0⟩ := hrel
      by_cases hlt : kk < n
      · obtain ⟨g, rfl, hg, hc⟩ := (h.below B0).2.2 (by omega)
        obtain ⟨z, ⟨p1, p2, p3⟩, hz0⟩ := hc kk hlt
        obtain ⟨gx, rfl, lgx, hcx⟩ := (h'.below B0).2.2 (by omega)
        obtain ⟨y, ay, hy0⟩ := hcx kk hlt
        have hz : RV wr z.s z.g z.A z.n z.c (zs.getD kk 0) := hz0
        have hy : RRV wr y.s y.g y.A y.n y.c y.s' y.g' y.A' y.n' y.c' (X.getD kk 0) := hy0
        have HV := Lib.hid (HKS.out kk)
        have HOQ := Lib.hid (HV0.out kk hkk)
        have HMQ := Lib.hid (HM0.out kk)
        have HC := Lib.hid (HC0.out kk)
        have HXQ := Lib.hid (HX0.out kk)
        rw [HZ.out kk hlt] at HV HMQ HC
        clear hc hcx hz0 hy0 h h'
        generalize zs.getD kk 0 = cz at *
        generalize X.getD kk 0 = xq at *
        generalize valK rr X kk = oq at *
        have hk0 : (0 : Int) ≤ (kk : Int) := by omega
        have hkn : (kk : Int) < (n : Int) := by omega
        go_upto_region 5 with (fail)
        have az : (wr.alloc (.cells #[.int .i64 z.s, .bool z.g, .slice z.A z.n z.c] 49)).heap[wr.heap.size]? = some (.cells #[.int .i64 z.s, .bool z.g, .slice z.A z.n z.c] 49 (0, 0)) := blk_at _ rfl
        replace ao := blk_alloc ao (.cells #[.int .i64 z.s, .bool z.g, .slice z.A z.n z.c] 49)
        replace ar := blk_alloc ar (.cells #[.int .i64 z.s, .bool z.g, .slice z.A z.n z.c] 49)
        replace ho := RRV.kp ho ((Kp.refl _ _).alloc (.cells #[.int .i64 z.s, .bool z.g, .slice z.A z.n z.c] 49))
        replace hz := RV.kp hz ((Kp.refl _ _).alloc (.cells #[.int .i64 z.s, .bool z.g, .slice z.A z.n z.c] 49))
        replace hy := RRV.kp hy ((Kp.refl _ _).alloc (.cells #[.int .i64 z.s, .bool z.g, .slice z.A z.n z.c] 49))
        replace ay := At6q.below ay lgx (bl_alloc (Below.refl _ _) (.cells #[.int .i64 z.s, .bool z.g, .slice z.A z.n z.c] 49))
        replace lgx : gx < (wr.alloc (.cells #[.int .i64 z.s, .bool z.g, .slice z.A z.n z.c] 49)).heap.size := by simp; omega
        replace B0 := bl_alloc B0 (.cells #[.int .i64 z.s, .bool z.g, .slice z.A z.n z.c] 49)
        clear p1 p2 p3 hg
        have lo := blk_lt ao
        generalize wr.heap.size = g7 at *
        generalize wr.alloc (.cells #[.int .i64 z.s, .bool z.g, .slice z.A z.n z.c] 49) = W4 at *
        obtain ⟨⟨f1, f2, f3⟩, f5⟩ := bx3 az
        go_wp2_with fail
        refine (rsign_int_calls z.s z.g z.A z.n z.c cz _ hz).mono ?_
        rintro e w5 ⟨rfl, hB5⟩
        replace az := blk_below az hB5
        replace ao := blk_below ao hB5
        replace ar := blk_below ar hB5
        replace ay := At6q.below ay lgx hB5
        replace lgx : gx < w5.heap.size := Nat.lt_of_lt_of_le lgx hB5.size
        replace ho := RRV.below ho hB5
        replace hz := RV.below hz hB5
        replace hy := RRV.below hy hB5
        replace B0 := bl_then B0 hB5
        clear f1 f2 f3 f5 hB5
        by_cases hc0 : cz = 0
        · have hs : cz.sign = 0 := by rw [hc0]; rfl
          rw [hs]
          have E := Lib.hid (show oq + (cz : Rat) * xq = oq by rw [hc0]; simp; grind)
          rw [E.out] at HV
          clear hs hc0
          go_wp2
          go_roundw
          case rel => exact ⟨kk + 1, o, hlt, by go_num, ao, by rw [HV.out]; exact ho, ar, B0⟩
          case measure => simp [intOf]; omega
        · have hs : (cz.sign != 0) = true := by
            have : ¬ cz.sign = 0 := fun h => hc0 (Int.sign_eq_zero_iff_zero.1 h)
            simpa using this
          generalize cz.sign = sg at *
          clear hc0
          go_upto_region 6 with (fail)
          have ao_0 := blk_drew ao
          have az_0 := blk_drew az
          have ay_0 : At6q w5.drew gx (kk * 6) y := ay
          have hS0 : w5.drew.cell? ⟨go, 0, none⟩ = some (Value.int .i64 o.s) ∧ w5.drew.cell? ⟨go, 1, none⟩ = some (Value.bool o.g) ∧ w5.drew.cell? ⟨go, 2, none⟩ = some (Value.slice o.A o.n o.c) ∧ w5.drew.cell? ⟨go, 3, none⟩ = some (Value.int .i64 o.s') ∧ w5.drew.cell? ⟨go, 4, none⟩ = some (Value.bool o.g') ∧ w5.drew.cell? ⟨go, 5, none⟩ = some (Value.slice o.A' o.n' o.c') ∧ w5.drew.cell? ⟨g7, 0, none⟩ = some (Value.int .i64 z.s) ∧ w5.drew.cell? ⟨g7, 1, none⟩ = some (Value.bool z.g) ∧ w5.drew.cell? ⟨g7, 2, none⟩ = some (Value.slice z.A z.n z.c) ∧ w5.drew.cell? ⟨gx, kk * 6, none⟩ = some (Value.int .i64 y.s) ∧ w5.drew.cell? ⟨gx, kk * 6 + 1, none⟩ = some (Value.bool y.g) ∧ w5.drew.cell? ⟨gx, kk * 6 + 2, none⟩ = some (Value.slice y.A y.n y.c) ∧ w5.drew.cell? ⟨gx, kk * 6 + 3, none⟩ = some (Value.int .i64 y.s') ∧ w5.drew.cell? ⟨gx, kk * 6 + 4, none⟩ = some (Value.bool y.g') ∧ w5.drew.cell? ⟨gx, kk * 6 + 5, none⟩ = some (Value.slice y.A' y.n' y.c') := qj6 (bx6 ao_0).1 (qj3 (bx3 az_0).1 (at6c ay_0))
          refine wp_region_T (n := 10) (fun W => W.cell? ⟨go, 0, none⟩ = some (Value.int .i64 o.s) ∧ W.cell? ⟨go, 1, none⟩ = some (Value.bool o.g) ∧ W.cell? ⟨go, 2, none⟩ = some (Value.slice o.A o.n o.c) ∧ W.cell? ⟨go, 3, none⟩ = some (Value.int .i64 o.s') ∧ W.cell? ⟨go, 4, none⟩ = some (Value.bool o.g') ∧ W.cell? ⟨go, 5, none⟩ = some (Value.slice o.A' o.n' o.c') ∧ W.cell? ⟨g7, 0, none⟩ = some (Value.int .i64 z.s) ∧ W.cell? ⟨g7, 1, none⟩ = some (Value.bool z.g) ∧ W.cell? ⟨g7, 2, none⟩ = some (Value.slice z.A z.n z.c) ∧ W.cell? ⟨gx, kk * 6, none⟩ = some (Value.int .i64 y.s) ∧ W.cell? ⟨gx, kk * 6 + 1, none⟩ = some (Value.bool y.g) ∧ W.cell? ⟨gx, kk * 6 + 2, none⟩ = some (Value.slice y.A y.n y.c) ∧ W.cell? ⟨gx, kk * 6 + 3, none⟩ = some (Value.int .i64 y.s') ∧ W.cell? ⟨gx, kk * 6 + 4, none⟩ = some (Value.bool y.g') ∧ W.cell? ⟨gx, kk * 6 + 5, none⟩ = some (Value.slice y.A' y.n' y.c')) (by kernel_rfl) ?_
          refine wpT_take (n := 10) (i := 0) (v := ?_) (by decide) (by kernel_rfl) rfl (by kernel_rfl) (by kernel_rfl) (by kernel_rfl) (fun _ _ _ h => h) (Or.inl ⟨by rfl, ?_⟩) hS0 ?_
          rotate_left
          · intro w' hSw
            (try dsimp only at hSw)
            go_simp
            (try with_reducible rfl)
          try simp only [Act.put, List.setIfInBounds_toArray, List.set_cons_zero, List.set_cons_succ]
          refine wpT_take (n := 10) (i := 1) (v := ?_) (by decide) (by kernel_rfl) rfl (by kernel_rfl) (by kernel_rfl) (by kernel_rfl) (fun _ _ _ h => h) (Or.inl ⟨by rfl, ?_⟩) hS0 ?_
          rotate_left
          · intro w' hSw
            (try dsimp only at hSw)
            go_simp
            (try with_reducible rfl)
          try simp only [Act.put, List.setIfInBounds_toArray, List.set_cons_zero, List.set_cons_succ]
          refine wpT_take (n := 10) (i := 4) (v := ?_) (by decide) (by kernel_rfl) rfl (by kernel_rfl) (by kernel_rfl) (by kernel_rfl) (fun _ _ _ h => h) (Or.inl ⟨by rfl, ?_⟩) hS0 ?_
          rotate_left
          · intro w' hSw
            (try dsimp only at hSw)
            go_simp
            (try with_reducible rfl)
          try simp only [Act.put, List.setIfInBounds_toArray, List.set_cons_zero, List.set_cons_succ]
          refine wpT_take (n := 10) (i := 5) (v := ?_) (by decide) (by kernel_rfl) rfl (by kernel_rfl) (by kernel_rfl) (by kernel_rfl) (fun _ _ _ h => h) (Or.inl ⟨by rfl, ?_⟩) hS0 ?_
          rotate_left
          · intro w' hSw
            (try dsimp only at hSw)
            go_simp
            (try with_reducible rfl)
          try simp only [Act.put, List.setIfInBounds_toArray, List.set_cons_zero, List.set_cons_succ]
          refine wpT_take (n := 10) (i := 6) (v := ?_) (by decide) (by kernel_rfl) rfl (by kernel_rfl) (by kernel_rfl) (by kernel_rfl) (fun _ _ _ h => h) (Or.inl ⟨by rfl, ?_⟩) hS0 ?_
          rotate_left
          · intro w' hSw
            (try dsimp only at hSw)
            go_simp
            (try with_reducible rfl)
          try simp only [Act.put, List.setIfInBounds_toArray, List.set_cons_zero, List.set_cons_succ]
          refine wpT_take (n := 10) (i := 7) (v := ?_) (by decide) (by kernel_rfl) rfl (by kernel_rfl) (by kernel_rfl) (by kernel_rfl) (fun _ _ _ h => h) (Or.inl ⟨by rfl, ?_⟩) hS0 ?_
          rotate_left
          · intro w' hSw
            (try dsimp only at hSw)
            go_simp
            (try with_reducible rfl)
          try simp only [Act.put, List.setIfInBounds_toArray, List.set_cons_zero, List.set_cons_succ]
          refine wpT_one (n := 10) (i := 2) (by kernel_rfl) rfl (fun K9 hK9 => ?_)
          go_simp
          refine (rof_calls 1 _ (by omega) (by omega)).mono ?_
          rintro e y1 ⟨⟨s1, b1, A1, n1, c1, rfl, t1⟩, hB1⟩
          have H1 : Below w5.heap.size w5 y1 := bl_then (bl_drew (Below.refl _ _)) hB1
          have ao_1 := blk_below ao H1
          have az_1 := blk_below az H1
          have ay_1 := At6q.below ay lgx H1
          have hS1 : y1.cell? ⟨go, 0, none⟩ = some (Value.int .i64 o.s) ∧ y1.cell? ⟨go, 1, none⟩ = some (Value.bool o.g) ∧ y1.cell? ⟨go, 2, none⟩ = some (Value.slice o.A o.n o.c) ∧ y1.cell? ⟨go, 3, none⟩ = some (Value.int .i64 o.s') ∧ y1.cell? ⟨go, 4, none⟩ = some (Value.bool o.g') ∧ y1.cell? ⟨go, 5, none⟩ = some (Value.slice o.A' o.n' o.c') ∧ y1.cell? ⟨g7, 0, none⟩ = some (Value.int .i64 z.s) ∧ y1.cell? ⟨g7, 1, none⟩ = some (Value.bool z.g) ∧ y1.cell? ⟨g7, 2, none⟩ = some (Value.slice z.A z.n z.c) ∧ y1.cell? ⟨gx, kk * 6, none⟩ = some (Value.int .i64 y.s) ∧ y1.cell? ⟨gx, kk * 6 + 1, none⟩ = some (Value.bool y.g) ∧ y1.cell? ⟨gx, kk * 6 + 2, none⟩ = some (Value.slice y.A y.n y.c) ∧ y1.cell? ⟨gx, kk * 6 + 3, none⟩ = some (Value.int .i64 y.s') ∧ y1.cell? ⟨gx, kk * 6 + 4, none⟩ = some (Value.bool y.g') ∧ y1.cell? ⟨gx, kk * 6 + 5, none⟩ = some (Value.slice y.A' y.n' y.c') := qj6 (bx6 ao_1).1 (qj3 (bx3 az_1).1 (at6c ay_1))
          refine hK9.out _ _ (fun _ => hS1) (fun _ => ?_)
          clear hK9 K9
          try simp only [Act.put, List.setIfInBounds_toArray, List.set_cons_zero, List.set_cons_succ]
          refine wpT_take (n := 10) (i := 3) (v := ?_) (by decide) (by kernel_rfl) rfl (by kernel_rfl) (by kernel_rfl) (by kernel_rfl) (fun _ _ _ h => h) (Or.inl ⟨by rfl, ?_⟩) hS1 ?_
          rotate_left
          · intro w' hSw
            (try dsimp only at hSw)
            go_simp
            (try with_reducible rfl)
          try simp only [Act.put, List.setIfInBounds_toArray, List.set_cons_zero, List.set_cons_succ]
          refine wpT_one (n := 10) (i := 8) (by kernel_rfl) rfl (fun K9 hK9 => ?_)
          go_simp
          refine (rrtimes_calls z.s z.g z.A z.n z.c s1 b1 A1 n1 c1 (cz : Rat) y.s y.g y.A y.n y.c y.s' y.g' y.A' y.n' y.c' xq _ (rrv_int (RV.below hz H1) t1) (RRV.below hy H1) KK HC.out HXQ.out (by omega)).mono ?_
          rintro e y2 ⟨⟨s2, b2, A2, n2, c2, s2', b2', A2', n2', c2', rfl, t2⟩, hB2⟩
          have H2 := bl_then H1 hB2
          have ao_2 := blk_below ao H2
          have az_2 := blk_below az H2
          have ay_2 := At6q.below ay lgx H2
          have hS2 : y2.cell? ⟨go, 0, none⟩ = some (Value.int .i64 o.s) ∧ y2.cell? ⟨go, 1, none⟩ = some (Value.bool o.g) ∧ y2.cell? ⟨go, 2, none⟩ = some (Value.slice o.A o.n o.c) ∧ y2.cell? ⟨go, 3, none⟩ = some (Value.int .i64 o.s') ∧ y2.cell? ⟨go, 4, none⟩ = some (Value.bool o.g') ∧ y2.cell? ⟨go, 5, none⟩ = some (Value.slice o.A' o.n' o.c') ∧ y2.cell? ⟨g7, 0, none⟩ = some (Value.int .i64 z.s) ∧ y2.cell? ⟨g7, 1, none⟩ = some (Value.bool z.g) ∧ y2.cell? ⟨g7, 2, none⟩ = some (Value.slice z.A z.n z.c) ∧ y2.cell? ⟨gx, kk * 6, none⟩ = some (Value.int .i64 y.s) ∧ y2.cell? ⟨gx, kk * 6 + 1, none⟩ = some (Value.bool y.g) ∧ y2.cell? ⟨gx, kk * 6 + 2, none⟩ = some (Value.slice y.A y.n y.c) ∧ y2.cell? ⟨gx, kk * 6 + 3, none⟩ = some (Value.int .i64 y.s') ∧ y2.cell? ⟨gx, kk * 6 + 4, none⟩ = some (Value.bool y.g') ∧ y2.cell? ⟨gx, kk * 6 + 5, none⟩ = some (Value.slice y.A' y.n' y.c') := qj6 (bx6 ao_2).1 (qj3 (bx3 az_2).1 (at6c ay_2))
          refine hK9.out _ _ (fun _ => hS2) (fun _ => ?_)
          clear hK9 K9
          try simp only [Act.put, List.setIfInBounds_toArray, List.set_cons_zero, List.set_cons_succ]
          refine wpT_one (n := 10) (i := 9) (by kernel_rfl) rfl (fun K9 hK9 => ?_)
          go_simp
          refine (rrplus_calls o.s o.g o.A o.n o.c o.s' o.g' o.A' o.n' o.c' oq s2 b2 A2 n2 c2 s2' b2' A2' n2' c2' ((cz : Rat) * xq) _ (RRV.below ho H2) t2 KK HOQ.out HMQ.out (by omega)).mono ?_
          rintro e y3 ⟨⟨s3, b3, A3, n3, c3, s3', b3', A3', n3', c3', rfl, t3⟩, hB3⟩
          have H3 := bl_then H2 hB3
          have ao_3 := blk_below ao H3
          have az_3 := blk_below az H3
          have ay_3 := At6q.below ay lgx H3
          have hS3 : y3.cell? ⟨go, 0, none⟩ = some (Value.int .i64 o.s) ∧ y3.cell? ⟨go, 1, none⟩ = some (Value.bool o.g) ∧ y3.cell? ⟨go, 2, none⟩ = some (Value.slice o.A o.n o.c) ∧ y3.cell? ⟨go, 3, none⟩ = some (Value.int .i64 o.s') ∧ y3.cell? ⟨go, 4, none⟩ = some (Value.bool o.g') ∧ y3.cell? ⟨go, 5, none⟩ = some (Value.slice o.A' o.n' o.c') ∧ y3.cell? ⟨g7, 0, none⟩ = some (Value.int .i64 z.s) ∧ y3.cell? ⟨g7, 1, none⟩ = some (Value.bool z.g) ∧ y3.cell? ⟨g7, 2, none⟩ = some (Value.slice z.A z.n z.c) ∧ y3.cell? ⟨gx, kk * 6, none⟩ = some (Value.int .i64 y.s) ∧ y3.cell? ⟨gx, kk * 6 + 1, none⟩ = some (Value.bool y.g) ∧ y3.cell? ⟨gx, kk * 6 + 2, none⟩ = some (Value.slice y.A y.n y.c) ∧ y3.cell? ⟨gx, kk * 6 + 3, none⟩ = some (Value.int .i64 y.s') ∧ y3.cell? ⟨gx, kk * 6 + 4, none⟩ = some (Value.bool y.g') ∧ y3.cell? ⟨gx, kk * 6 + 5, none⟩ = some (Value.slice y.A' y.n' y.c') := qj6 (bx6 ao_3).1 (qj3 (bx3 az_3).1 (at6c ay_3))
          have FF := bx6 ao_3
          obtain ⟨⟨k1, k2, k3, k4, k5, k6⟩, k7⟩ := FF
          refine hK9.out _ _ (fun _ => hS3) (fun _ => ?_)
          clear hK9 K9
          try simp only [Act.put, List.setIfInBounds_toArray, List.set_cons_zero, List.set_cons_succ]
          refine wpT_one (n := 10) (i := 10) (by kernel_rfl) rfl (fun K9 hK9 => ?_)
          go_simp
          refine hK9.out _ _ (fun h => absurd rfl h) (fun _ => ?_)
          clear hK9 K9
          try simp only [Act.put, List.setIfInBounds_toArray, List.set_cons_zero, List.set_cons_succ]
          refine wpT_done (by kernel_rfl) ?_ _
          have hE := Lib.hid (putRR t3 ao_3 (bl_then B0 H3) (by omega))
          have V3 := far6 (blk_below ar H3) (show w.heap.size + 1 ≠ go by omega) (.int .i64 s3) (.bool b3) (.slice A3 n3 c3) (.int .i64 s3') (.bool b3') (.slice A3' n3' c3')
          go_wp2
          go_roundw
          case rel => exact ⟨kk + 1, ⟨s3, b3, A3, n3, c3, s3', b3', A3', n3', c3'⟩, hlt, by go_num, hE.out.2.2, by rw [HV.out]; exact hE.out.1, V3, hE.out.2.1⟩
          case measure => simp [intOf]; omega
      · have hkn : n = kk := by omega
        subst hkn
        obtain ⟨⟨f1, f2, f3, f4, f5, f6⟩, f7⟩ := bx6 ao
        obtain ⟨⟨m1, m2, m3, m4, m5, m6⟩, m7⟩ := bx6 ar
        have hE := Lib.hid (putRR ho ar B0 (by omega))
        go_wp2
        refine bodyPost_ret (results_cell_row rfl _ _ (w.heap.size + 1) 51 #[.int .i64 o.s, .bool o.g, .slice o.A o.n o.c, .int .i64 o.s', .bool o.g', .slice o.A' o.n' o.c'] (0, 0) _ rfl hE.out.2.2 Tryz.underlying51 rfl (by kernel_rfl)) rfl ?_
        exact ⟨⟨_, _, _, _, _, _, _, _, _, _, rfl, hE.out.1⟩, hE.out.2.1⟩
end Go.Proofs.YtloplmmnmehkmaaGreat

namespace Go.Proofs.YtloplmmnmehkmaaGreat
open Go.RowKit

theorem valK_pls {n : Nat} {a b : Rw} (ha : a.1.length = n) (hb : b.1.length = n) (X : List Rat) (j : Nat) (hj : j ≤ n) : valK (pls a b) X j = valK a X j + valK b X j := by
  induction j with
  | zero => rfl
  | succ j ih =>
    have h1 := rv_pls a b (by omega) j
    rw [rv_lt _ _ (by rw [pls_len _ _ (by omega)]; omega), rv_lt _ _ (by omega), rv_lt _ _ (by omega)] at h1
    show valK (pls a b) X j + (pls a b).1.getD j 0 * X.getD j 0 = (valK a X j + a.1.getD j 0 * X.getD j 0) + (valK b X j + b.1.getD j 0 * X.getD j 0)
    rw [ih (by omega), h1]; grind
theorem valK_tms {n : Nat} {a : Rw} (q : Rat) (ha : a.1.length = n) (X : List Rat) (j : Nat) (hj : j ≤ n) : valK (tms a q) X j = valK a X j * q := by
  induction j with
  | zero => rfl
  | succ j ih =>
    have h1 := rv_tms a q j
    rw [rv_lt _ _ (by rw [tms_len]; omega), rv_lt _ _ (by omega)] at h1
    show valK (tms a q) X j + (tms a q).1.getD j 0 * X.getD j 0 = (valK a X j + a.1.getD j 0 * X.getD j 0) * q
    rw [ih (by omega), h1]; grind
/-- The sum that LinLinear computes. -/
def liS (F : List Fm) (M : List (Int × Int)) (X : List Rat) (n : Nat) : Nat → Rat
  | 0 => 0
  | k + 1 => liS F M X n k + ratQ (M.getD k (0, 0)) * valK (rowF (F.getD k ([], 0))) X n
theorem valK_zero (n : Nat) (X : List Rat) (j : Nat) : valK (List.replicate n (0 : Rat), (0 : Rat)) X j = 0 := by
  induction j with
  | zero => rfl
  | succ j ih =>
    show valK (List.replicate n (0 : Rat), (0 : Rat)) X j + (List.replicate n (0 : Rat)).getD j 0 * X.getD j 0 = 0
    have e : (List.replicate n (0 : Rat)).getD j 0 = 0 := by
      rw [List.getD_eq_getElem?_getD, List.getElem?_replicate]; split <;> rfl
    rw [ih, e]; grind
theorem valK_sm {n : Nat} {F : List Fm} (M : List (Int × Int)) (hF : ∀ j, j < F.length → (F.getD j ([], 0)).1.length = n) (X : List Rat) (k : Nat) (hk : k ≤ F.length) : valK (smK n F M k) X n = liS F M X n k := by
  induction k with
  | zero => exact valK_zero n X n
  | succ k ih =>
    show valK (pls (smK n F M k) (tms (rowF (F.getD k ([], 0))) (ratQ (M.getD k (0, 0))))) X n = liS F M X n k + _
    have hl := hF k (by omega)
    rw [valK_pls (smK_len M hF k (by omega)) (by rw [tms_len, rowF_len]; exact hl) X n (Nat.le_refl _), valK_tms _ (by rw [rowF_len]; exact hl) X n (Nat.le_refl _), ih (by omega)]
    grind
theorem liS_sz {n : Nat} {F : List Fm} {M : List (Int × Int)} {X : List Rat} (hn : n ≤ 8) (hF : ∀ j, j < F.length → SzW 61 (rowF (F.getD j ([], 0)))) (hM : ∀ j, SzR 61 (ratQ (M.getD j (0, 0)))) (hX : ∀ j, SzR 100 (X.getD j 0)) (k : Nat) (hk : k ≤ F.length) :
    SzR (1 + 1800 * k) (liS F M X n k) ∧ (k < F.length → SzR 2000 (valK (rowF (F.getD k ([], 0))) X n) ∧ SzR 2000 (ratQ (M.getD k (0, 0)) * valK (rowF (F.getD k ([], 0))) X n)) := by
  have hv : ∀ k, k < F.length → SzR 1732 (valK (rowF (F.getD k ([], 0))) X n) := fun k hk => by
    have h1 : SzW 100 (rowF (F.getD k ([], 0))) := ⟨fun j => ((hF k hk).1 j).mono (by omega), (hF k hk).2.mono (by omega)⟩
    exact (valK_sz h1 hX n).mono (by have := Nat.mul_le_mul_left (2 * 100 + 4) hn; omega)
  refine ⟨?_, fun h => ⟨(hv k h).mono (by omega), (qsz_mul (hM k) (hv k h)).mono (by omega)⟩⟩
  induction k with
  | zero => exact ⟨by unfold liS Sz; decide, by unfold liS Sz; decide⟩
  | succ k ih =>
    show SzR _ (liS F M X n k + ratQ (M.getD k (0, 0)) * valK (rowF (F.getD k ([], 0))) X n)
    exact (qsz_add (ih (by omega)) (qsz_mul (hM k) (hv k (by omega)))).mono (by omega)
/-- What a combination without an error is. -/
theorem comb_ok {n : Int} {F : List Fm} {M : List (Int × Int)} (hE : (cbF n F M).2.2 = 0) : OkFs n F ∧ OkNs M ∧ F.length = M.length ∧ OkF n (cbF n F M).1 ∧ 1 ≤ (cbF n F M).2.1 ∧ (cbF n F M).2.1 ≤ 1152921504606846976 ∧
    ∀ X : List Rat, valK (rowF (cbF n F M).1) X n.toNat / (((cbF n F M).2.1 : Int) : Rat) = liS F M X n.toNat F.length := by
  unfold cbF at hE ⊢
  by_cases h1 : OkFs n F ∧ OkNs M
  · rw [if_pos h1] at hE ⊢
    by_cases h2 : F.length = M.length
    · rw [if_pos h2] at hE ⊢
      by_cases h3 : ∀ z ∈ scl (cbQ n.toNat F M), mid z
      · rw [if_pos h3]
        obtain ⟨hf, hm⟩ := h1
        have hF : ∀ j, j < F.length → (F.getD j ([], 0)).1.length = n.toNat := fun j hj => by
          have := (hf.2.2 _ (mem_getD (d := (([], 0) : Fm)) hj)).2.1
          omega
        have hsl := smK_len M hF F.length (Nat.le_refl _)
        have hql : (cbQ n.toNat F M).length = n.toNat + 2 := by simp [cbQ, hsl]
        have hll : (scl (cbQ n.toNat F M)).length = n.toNat + 2 := by rw [scl_len, hql]
        obtain ⟨c, hc, hs, _⟩ := scl_spec (cbQ n.toNat F M)
        rw [hql] at hs
        have hmid : ∀ j, j < n.toNat + 2 → mid ((scl (cbQ n.toNat F M)).getD j 0) := fun j hj => h3 _ (mem_getD (by omega))
        have hlast : (((scl (cbQ n.toNat F M)).getD (n.toNat + 1) 0 : Int) : Rat) = c := by
          rw [hs _ (by omega)]
          have : (cbQ n.toNat F M).getD (n.toNat + 1) 0 = 1 := getD_app_one _ 1 0 _ (by simp [hsl])
          rw [this]; grind
        have hpos : 1 ≤ (scl (cbQ n.toNat F M)).getD (n.toNat + 1) 0 := by
          have : (0 : Int) < (scl (cbQ n.toNat F M)).getD (n.toNat + 1) 0 := Rat.intCast_pos.1 (by rw [hlast]; exact hc)
          omega
        refine ⟨hf, hm, h2, ⟨hf.1, ?_, hmid _ (by omega), fun z hz => h3 z (List.mem_of_mem_take hz)⟩, hpos, (hmid _ (by omega)).2, fun X => ?_⟩
        · have := hf.1.1
          show ((((scl (cbQ n.toNat F M)).take n.toNat).length : Nat) : Int) = n
          rw [List.length_take, hll]; omega
        · have key : ∀ j, j ≤ n.toNat → valK (rowF ((scl (cbQ n.toNat F M)).take n.toNat, (scl (cbQ n.toNat F M)).getD n.toNat 0)) X j = c * valK (smK n.toNat F M F.length) X j := by
            intro j
            induction j with
            | zero =>
              intro _
              show (((scl (cbQ n.toNat F M)).getD n.toNat 0 : Int) : Rat) = c * (smK n.toNat F M F.length).2
              rw [hs _ (by omega)]
              have : (cbQ n.toNat F M).getD n.toNat 0 = (smK n.toNat F M F.length).2 := by
                unfold cbQ
                rw [List.getD_eq_getElem?_getD, List.getElem?_append_left (by simp [hsl]), ← List.getD_eq_getElem?_getD, getD_app_one _ _ _ _ hsl]
              rw [this]
            | succ j ih =>
              intro hj
              have e1 : (rowF ((scl (cbQ n.toNat F M)).take n.toNat, (scl (cbQ n.toNat F M)).getD n.toNat 0)).1.getD j 0 = c * (smK n.toNat F M F.length).1.getD j 0 := by
                have a1 : ((scl (cbQ n.toNat F M)).take n.toNat).getD j 0 = (scl (cbQ n.toNat F M)).getD j 0 := by
                  rw [List.getD_eq_getElem?_getD, List.getElem?_take_of_lt (by omega), ← List.getD_eq_getElem?_getD]
                have a2 : (cbQ n.toNat F M).getD j 0 = (smK n.toNat F M F.length).1.getD j 0 := by
                  unfold cbQ
                  rw [List.append_assoc, List.getD_eq_getElem?_getD, List.getElem?_append_left (by omega), ← List.getD_eq_getElem?_getD]
                refine (getD_map (fun x : Int => (x : Rat)) _ j 0 0 (by rw [List.length_take, hll]; omega)).trans ?_
                rw [a1, hs j (by omega), a2]
              show valK _ X j + (rowF ((scl (cbQ n.toNat F M)).take n.toNat, (scl (cbQ n.toNat F M)).getD n.toNat 0)).1.getD j 0 * X.getD j 0 = c * (valK (smK n.toNat F M F.length) X j + (smK n.toNat F M F.length).1.getD j 0 * X.getD j 0)
              rw [ih (by omega), e1]; grind
          show valK (rowF ((scl (cbQ n.toNat F M)).take n.toNat, (scl (cbQ n.toNat F M)).getD n.toNat 0)) X n.toNat / (((scl (cbQ n.toNat F M)).getD (n.toNat + 1) 0 : Int) : Rat) = _
          rw [key _ (Nat.le_refl _), hlast, valK_sm M hF X F.length (Nat.le_refl _)]
          have : c ≠ 0 := fun e => by rw [e] at hc; exact absurd hc (by decide)
          grind
      · rw [if_neg h3] at hE; exact absurd hE (by decide)
    · rw [if_neg h2] at hE; exact absurd hE (by decide)
  · rw [if_neg h1] at hE; exact absurd hE (by decide)
end Go.Proofs.YtloplmmnmehkmaaGreat

namespace Go.Proofs.YtloplmmnmehkmaaGreat
open Go.RowKit

def fewP (F : List Fm) : Prop := (∀ f ∈ F, f.1.length ≤ 40) ∧ F.length < 140
instance (F : List Fm) : Decidable (fewP F) := by unfold fewP; infer_instance
set_option maxHeartbeats 40000000
set_option maxRecDepth 100000
theorem lfew_calls (A : Option Addr) (m c : Nat) (F : List Fm) (w : World) (h : RdF w A m F) :
    Calls Tryz.prog 9 #[.slice A m c] w fun e w' => e = .returned (.bool (decide (fewP F))) ∧ Below w.heap.size w w' := by
  have L := Lib.hid h.1
  have hm := h.2.1
  generalize hD : decide (fewP F) = D
  have HD := Lib.hid hD
  clear hD
  go_enter Tryz.func9, Tryz.ntmps9
  go_wp2_with fail
  go_loopw [7] (fun i wr => ∃ kk : Nat, kk ≤ m ∧ i = .int .i64 kk ∧ (∀ j, j < kk → (F.getD j ([], 0)).1.length ≤ 40) ∧ Below w.heap.size w wr) (fun i _ => m - (intOf i).toNat)
  case atStart => exact ⟨0, Nat.zero_le _, rfl, fun j hj => absurd hj (by omega), Below.refl _ _⟩
  case round =>
    obtain ⟨kk, hkk, rfl, hall, B0⟩ := hrel
    have HALL := Lib.hid hall
    clear hall
    by_cases hlt : kk < m
    · obtain ⟨g, off, rfl, hg, hc⟩ := (h.below B0).2.2 (by omega)
      obtain ⟨A1, n1, c1, p1, p2, hr⟩ := hc kk hlt
      have HMEM := Lib.hid (mem_getD (d := (([], 0) : Fm)) (by rw [L.out]; exact hlt : kk < F.length))
      have hn1 : (F.getD kk ([], 0)).1.length = n1 := hr.1
      have HN1 := Lib.hid hn1
      have hn2 := hr.2.1
      clear hc h hr hn1
      generalize hff : F.getD kk ([], 0) = f at *
      have HFF := Lib.hid hff
      clear hff
      have B1 := bl_alloc B0 (.cells #[.slice A1 n1 c1, .int .i64 f.2] 44)
      by_cases h40 : n1 ≤ 40
      · have d1 : decide ((40 : Int) < (n1 : Int)) = false := decide_eq_false (by omega)
        have d2 : ¬ (40 : Int) < (n1 : Int) := by omega
        go_wp2
        go_roundw
        case rel =>
          refine ⟨kk + 1, hlt, by go_num, ?_, B1⟩
          intro j hj
          rcases Nat.lt_or_ge j kk with h1 | h1
          · exact HALL.out j h1
          · have : j = kk := by omega
            subst this
            rw [HFF.out, HN1.out]; exact h40
        case measure => simp [intOf]; omega
      · have d1 : decide ((40 : Int) < (n1 : Int)) = true := decide_eq_true (by omega)
        have d2 : (40 : Int) < (n1 : Int) := by omega
        have hd := HD.out
        rw [decide_eq_false (fun hh => h40 (by rw [← HN1.out]; exact hh.1 _ HMEM.out))] at hd
        subst hd
        go_wp2
        go_ret
        exact ⟨rfl, B1⟩
    · have hkn : m = kk := by omega
      subst hkn
      have hd := HD.out
      by_cases h140 : m < 140
      · rw [decide_eq_true ⟨all_of_getD (p := fun f : Fm => f.1.length ≤ 40) (d := (([], 0) : Fm)) fun j hj => HALL.out j (by rw [L.out] at hj; omega), by rw [L.out]; exact h140⟩] at hd
        subst hd
        have d1 : decide ((m : Int) < 140) = true := decide_eq_true (by omega)
        have d2 : (m : Int) < 140 := by omega
        go_wp2
        go_ret
        exact ⟨by first | rfl | simp [d1], B0⟩
      · rw [decide_eq_false (fun hh => h140 (by rw [← L.out]; exact hh.2))] at hd
        subst hd
        have d1 : decide ((m : Int) < 140) = false := decide_eq_false (by omega)
        go_wp2
        go_ret
        exact ⟨by first | rfl | simp [d1] | (simp; omega), B0⟩
end Go.Proofs.YtloplmmnmehkmaaGreat

namespace Go.Proofs.YtloplmmnmehkmaaGreat
open Go.RowKit

theorem jq_mk {w : World} {s : Int} {b : Bool} {A : Option Addr} {n c : Nat} {s' : Int} {b' : Bool} {A' : Option Addr} {n' c' : Nat} {q : Rat} (h : RRV w s b A n c s' b' A' n' c' q) : ∃ y : JQ, s = y.s ∧ b = y.g ∧ A = y.A ∧ n = y.n ∧ c = y.c ∧ s' = y.s' ∧ b' = y.g' ∧ A' = y.A' ∧ n' = y.n' ∧ c' = y.c' ∧ RRV w y.s y.g y.A y.n y.c y.s' y.g' y.A' y.n' y.c' q :=
  ⟨⟨s, b, A, n, c, s', b', A', n', c'⟩, rfl, rfl, rfl, rfl, rfl, rfl, rfl, rfl, rfl, rfl, h⟩
set_option maxHeartbeats 40000000
set_option maxRecDepth 100000
theorem linlin_walk (n : Int) (A : Option Addr) (m c : Nat) (F : List Fm) (A' : Option Addr) (m' c' : Nat) (M : List (Int × Int)) (A4 : Option Addr) (m4 c4' : Nat) (x : List (Int × Int)) (w : World) (h : RdF w A m F) (hi : ∀ f ∈ F, I64F f) (h' : RdN w A' m' M) (hi' : I64s M) (hx4 : RdN w A4 m4 x) (hxi : I64s x) :
    Calls Tryz.prog 7 #[.int .i64 n, .slice A m c, .slice A' m' c', .slice A4 m4 c4'] w fun e w' => e = .returned (.bool true) ∧ Below w.heap.size w w' := by
  have L := Lib.hid h.1
  have L' := Lib.hid h'.1
  have L4 := Lib.hid hx4.1
  have HI := Lib.hid hi
  have HI' := Lib.hid hi'
  have HXI := Lib.hid hxi
  have hm9 := h'.2.1
  clear hi hi'
  go_enter Tryz.func7, Tryz.ntmps7
  go_wp2_with fail
  refine (lfew_calls A m c F _ h).mono ?_
  rintro e w1 ⟨he, B0⟩
  by_cases hfew : fewP F
  · rw [decide_eq_true hfew] at he
    subst he
    have hm : m ≤ 500 := by have := hfew.2; have := L.out; omega
    have HLN : Hid (∀ f ∈ F, f.1.length ≤ 1000000) := Lib.hid fun f hf => by have := hfew.1 f hf; omega
    clear hfew
    by_cases h140 : m' ≤ 140
    · have d1 : ¬ (140 : Int) < (m' : Int) := by omega
      have d2 : decide ((140 : Int) < (m' : Int)) = false := decide_eq_false d1
      go_wp2_with fail
      refine (r2vpoint_calls n A4 m4 c4' x _ (hx4.below B0) hxi).mono ?_
      rintro e w2 ⟨he, hB2⟩
      replace B0 := bl_then B0 hB2
      clear hB2
      by_cases hox : OkX n x
      · rw [decide_eq_true hox] at he
        subst he
        obtain ⟨n, rfl⟩ : ∃ nn : Nat, n = nn := ⟨n.toNat, by have := hox.1.1; omega⟩
        have hn8 : n ≤ 8 := by have := hox.1.2; omega
        have e4 : n = m4 := by have h1 := hox.2.1; have h2 := L4.out; omega
        subst e4
        have HXO : Hid (∀ y ∈ x, OkN y.1 y.2) := Lib.hid hox.2.2
        have HX1 : Hid (∀ j, SzR 100 ((x.map ratP).getD j 0)) := Lib.hid fun j => by
          rcases Nat.lt_or_ge j x.length with hj | hj
          · rw [getD_map ratP x j (0, 0) 0 hj]
            exact (ratP_sz (hox.2.2 _ (mem_getD (d := ((0, 0) : Int × Int)) hj))).mono (by omega)
          · rw [List.getD_eq_getElem?_getD, List.getElem?_eq_none (by simpa using hj)]
            exact SzR.mono (k := 1) ⟨by unfold Sz; decide, by unfold Sz; decide⟩ (by omega)
        clear hox d1 d2
        have HC := lcomb_calls n A m c F A' m' c' M w2 (h.below B0) HI.out HLN.out hm (h'.below B0) HI'.out
        have HOK := Lib.hid (comb_ok (n := (n : Int)) (F := F) (M := M))
        generalize cbF n F M = E at *
        obtain ⟨p, k, e0⟩ := E
        dsimp only at HC HOK
        go_wp2_with fail
        refine HC.mono ?_
        rintro e w3 ⟨⟨v3, rfl, Ap, np, cp, rfl, tp⟩, hB3⟩
        replace B0 := bl_then B0 hB3
        clear hB3 HC
        by_cases he0 : e0 = 0
        · subst he0
          obtain ⟨hok, hok', hlen, hp, hk1, hk2, hlaw⟩ := HOK.out rfl
          rw [Int.toNat_natCast] at hlaw
          have enp : n = np := by have h1 := hp.2.1; have h2 := tp.1; omega
          subst enp
          have emm : m = m' := by rw [← L.out, ← L'.out, hlen]
          subst emm
          have HPI := Lib.hid (i64f_of hp)
          have HPS : Hid (SzW 100 (rwZ p.1 p.2)) := Lib.hid (by
            have := rowF_sz hp
            exact ⟨fun j => (this.1 j).mono (by omega), this.2.mono (by omega)⟩)
          have HPV : Hid (SzR 2000 (valK (rowF p) (x.map ratP) n)) := Lib.hid ((valK_sz HPS.out HX1.out n).mono (by have := Nat.mul_le_mul_left (2 * 100 + 4) hn8; omega))
          have HKS : Hid (SzR 2000 ((k : Int) : Rat)) := Lib.hid (SzR.mono (k := 61) (SzR.intc (by unfold Sz; exact Nat.lt_of_le_of_lt (show k.natAbs ≤ 1152921504606846976 by omega) (by decide)) (by omega)) (by omega))
          have HKN : Hid (((k : Int) : Rat) ≠ 0) := Lib.hid fun e => by have := Rat.intCast_eq_zero_iff.1 e; omega
          have HEQ : Hid (valK (rowF p) (x.map ratP) n / ((k : Int) : Rat) = liS F M (x.map ratP) n m) := Lib.hid (by rw [hlaw (x.map ratP), L.out])
          have HFS : Hid (∀ j, j < F.length → SzW 61 (rowF (F.getD j ([], 0)))) := Lib.hid fun j hj => rowF_sz (hok.2.2 _ (mem_getD (d := (([], 0) : Fm)) hj))
          have HFL : Hid (∀ j, j < F.length → (F.getD j ([], 0)).1.length = n) := Lib.hid fun j hj => by have := (hok.2.2 _ (mem_getD (d := (([], 0) : Fm)) hj)).2.1; omega
          have HMO : Hid (∀ y ∈ M, OkN y.1 y.2) := Lib.hid hok'
          have HMQ : Hid (∀ j, SzR 61 (ratQ (M.getD j (0, 0)))) := Lib.hid fun j => by
            rcases Nat.lt_or_ge j M.length with hj | hj
            · exact ratP_sz (hok' _ (mem_getD (d := ((0, 0) : Int × Int)) hj))
            · rw [List.getD_eq_getElem?_getD, List.getElem?_eq_none hj]
              exact ⟨by show Sz 61 (Rat.divInt 0 0).num; unfold Sz; decide, by show Sz 61 ((Rat.divInt 0 0).den : Int); unfold Sz; decide⟩
          have HLS : Hid (∀ k, k ≤ m → SzR 300000 (liS F M (x.map ratP) n k) ∧ (k < m → SzR 2000 (valK (rowF (F.getD k ([], 0))) (x.map ratP) n) ∧ SzR 300000 (ratQ (M.getD k (0, 0)) * valK (rowF (F.getD k ([], 0))) (x.map ratP) n))) := Lib.hid fun k hk => by
            have hl120 : F.length ≤ 140 := by have := hok.2.1; omega
            have := liS_sz (n := n) (X := x.map ratP) hn8 HFS.out HMQ.out HX1.out k (by rw [L.out]; exact hk)
            exact ⟨this.1.mono (by omega), fun h => ⟨(this.2 (by rw [L.out]; exact h)).1, (this.2 (by rw [L.out]; exact h)).2.mono (by omega)⟩⟩
          clear hok hok' hlen hlaw HOK hp
          have dk : ¬ k < 1 := by omega
          have dk2 : decide (k < 1) = false := decide_eq_false dk
          have ap : (w3.alloc (.cells #[.slice Ap n cp, .int .i64 p.2] 44)).heap[w3.heap.size]? = some (.cells #[.slice Ap n cp, .int .i64 p.2] 44 (0, 0)) := blk_at _ rfl
          replace B0 := bl_alloc B0 (.cells #[.slice Ap n cp, .int .i64 p.2] 44)
          replace tp := tp.below (bl_alloc (Below.refl _ _) (.cells #[.slice Ap n cp, .int .i64 p.2] 44))
          obtain ⟨f1, f2, f3, f4⟩ := bx2 ap
          go_wp2_with fail
          refine (rrwhole_calls 0 _ (by omega) (by omega)).mono ?_
          rintro e w5 ⟨⟨s0, b0, A0, n0, c0, s0', b0', A0', n0', c0', rfl, t0⟩, hB5⟩
          replace ap := blk_below ap hB5
          replace B0 := bl_then B0 hB5
          replace tp := tp.below hB5
          clear f1 f2 f3 f4 hB5 dk dk2
          have lg9 := blk_lt ap
          have hgb : w.heap.size ≤ w5.heap.size := B0.size
          obtain ⟨y0, rfl, rfl, rfl, rfl, rfl, rfl, rfl, rfl, rfl, rfl, ty0⟩ := jq_mk t0
          have a12 : (w5.alloc (.cells #[.int .i64 y0.s, .bool y0.g, .slice y0.A y0.n y0.c, .int .i64 y0.s', .bool y0.g', .slice y0.A' y0.n' y0.c'] 51)).heap[w5.heap.size]? = some (.cells #[.int .i64 y0.s, .bool y0.g, .slice y0.A y0.n y0.c, .int .i64 y0.s', .bool y0.g', .slice y0.A' y0.n' y0.c'] 51 (0, 0)) := blk_at _ rfl
          have ty := RRV.al2 ty0 (.cells #[.int .i64 y0.s, .bool y0.g, .slice y0.A y0.n y0.c, .int .i64 y0.s', .bool y0.g', .slice y0.A' y0.n' y0.c'] 51)
          replace ap := blk_alloc ap (.cells #[.int .i64 y0.s, .bool y0.g, .slice y0.A y0.n y0.c, .int .i64 y0.s', .bool y0.g', .slice y0.A' y0.n' y0.c'] 51)
          replace B0 := bl_alloc B0 (.cells #[.int .i64 y0.s, .bool y0.g, .slice y0.A y0.n y0.c, .int .i64 y0.s', .bool y0.g', .slice y0.A' y0.n' y0.c'] 51)
          replace tp := tp.below (bl_alloc (Below.refl _ _) (.cells #[.int .i64 y0.s, .bool y0.g, .slice y0.A y0.n y0.c, .int .i64 y0.s', .bool y0.g', .slice y0.A' y0.n' y0.c'] 51))
          have hg9 : w3.heap.size ≠ w5.heap.size := by omega
          clear t0 ty0
          go_wp2_with fail
          generalize w3.heap.size = g9 at *
          generalize w5.heap.size = g12 at *
          generalize w5.alloc (.cells #[.int .i64 y0.s, .bool y0.g, .slice y0.A y0.n y0.c, .int .i64 y0.s', .bool y0.g', .slice y0.A' y0.n' y0.c'] 51) = W6 at *
          go_loopw [53] (fun i wr => ∃ (kk : Nat) (y : JQ), kk ≤ m ∧ i = .int .i64 kk ∧ wr.heap[g12]? = some (.cells #[.int .i64 y.s, .bool y.g, .slice y.A y.n y.c, .int .i64 y.s', .bool y.g', .slice y.A' y.n' y.c'] 51 (0, 0)) ∧ RRV wr y.s y.g y.A y.n y.c y.s' y.g' y.A' y.n' y.c' (liS F M (x.map ratP) n kk) ∧ wr.heap[g9]? = some (.cells #[.slice Ap n cp, .int .i64 p.2] 44 (0, 0)) ∧ RdI wr 3 .i64 Ap n p.1 ∧ Below w.heap.size w wr) (fun i _ => m - (intOf i).toNat)
          case atStart => exact ⟨0, y0, Nat.zero_le _, rfl, a12, ty, ap, tp, B0⟩
          case round =>
            clear a12 ty ap tp B0
            obtain ⟨kk, y, hkk, rfl, a12, ty, ap, tp, B0⟩ := hrel
            obtain ⟨hsk, hvk⟩ := HLS.out kk hkk
            have HSK := Lib.hid hsk
            by_cases hlt : kk < m
            · obtain ⟨g, off, rfl, hg, hc⟩ := (h.below B0).2.2 (by omega)
              obtain ⟨A1, n1, c1, p1, p2, c3⟩ := hc kk hlt
              obtain ⟨gm, om, rfl, lgm, hcm⟩ := (h'.below B0).2.2 (by omega)
              obtain ⟨pm1, pm2⟩ := hcm kk hlt
              have hmok := HMO.out _ (mem_getD (d := ((0, 0) : Int × Int)) (by rw [L'.out]; exact hlt) : M.getD kk (0, 0) ∈ M)
              have h64 := HI.out _ (mem_getD (d := (([], 0) : Fm)) (by rw [L.out]; exact hlt) : F.getD kk ([], 0) ∈ F)
              have hn1 : n = n1 := (HFL.out kk (by rw [L.out]; exact hlt)).symm.trans c3.1
              subst hn1
              have HF1 : Hid (SzW 100 (rwZ (F.getD kk ([], 0)).1 (F.getD kk ([], 0)).2)) := Lib.hid (by
                have := HFS.out kk (by rw [L.out]; exact hlt)
                exact ⟨fun j => (this.1 j).mono (by omega), this.2.mono (by omega)⟩)
              have HV1 := Lib.hid (hvk hlt).1
              have HPK := Lib.hid (hvk hlt).2
              have HMQ1 : Hid (SzR 2000 (ratQ (M.getD kk (0, 0)))) := Lib.hid ((HMQ.out kk).mono (by omega))
              have HNX : Hid (liS F M (x.map ratP) n kk + ratQ (M.getD kk (0, 0)) * valK (rowF (F.getD kk ([], 0))) (x.map ratP) n = liS F M (x.map ratP) n (kk + 1)) := Lib.hid rfl
              clear hc hcm hsk hvk
              generalize F.getD kk ([], 0) = f1 at *
              generalize hMk : M.getD kk (0, 0) = mk at *
              clear hMk
              obtain ⟨mt, ml⟩ := mk
              dsimp only at pm1 pm2 hmok
              generalize liS F M (x.map ratP) n kk = sk at *
              have hk0 : (0 : Int) ≤ (kk : Int) := by omega
              have hkn : (kk : Int) < (m : Int) := by omega
              have a14 : (wr.alloc (.cells #[.slice A1 n c1, .int .i64 f1.2] 44)).heap[wr.heap.size]? = some (.cells #[.slice A1 n c1, .int .i64 f1.2] 44 (0, 0)) := blk_at _ rfl
              have BX : Below wr.heap.size wr (wr.alloc (.cells #[.slice A1 n c1, .int .i64 f1.2] 44)) := bl_alloc (Below.refl _ _) _
              have c4 := c3.below BX
              replace a12 := blk_below a12 BX
              replace ty := RRV.below ty BX
              replace ap := blk_below ap BX
              replace tp := tp.below BX
              replace B0 := bl_then B0 BX
              have BW9 := B0
              have pm1 := ((cells_below BX).1 _ _ lgm).trans pm1
              have pm2 := ((cells_below BX).1 _ _ lgm).trans pm2
              replace lgm := Nat.lt_of_lt_of_le lgm BX.size
              go_upto_region 12 with (fail)
              clear c3 BX p1 p2 hg
              generalize wr.heap.size = g14 at *
              generalize wr.alloc (.cells #[.slice A1 n c1, .int .i64 f1.2] 44) = W9 at *
              have cmB : ∀ W, Below W9.heap.size W9 W → W.cell? ⟨gm, om + kk * 2, none⟩ = some (Value.int .i64 mt) ∧ W.cell? ⟨gm, om + kk * 2 + 1, none⟩ = some (Value.int .i64 ml) := fun W hB => ⟨((cells_below hB).1 _ _ lgm).trans pm1, ((cells_below hB).1 _ _ lgm).trans pm2⟩
              have H0 : Below W9.heap.size W9 W9.drew := bl_drew (Below.refl _ _)
              have a12_0 := blk_drew a12
              have a14_0 := blk_drew a14
              have cm_0 := cmB _ H0
              have hS0 : (W9.drew.cell? ⟨g12, 0, none⟩ = some (Value.int .i64 y.s) ∧ W9.drew.cell? ⟨g12, 1, none⟩ = some (Value.bool y.g) ∧ W9.drew.cell? ⟨g12, 2, none⟩ = some (Value.slice y.A y.n y.c) ∧ W9.drew.cell? ⟨g12, 3, none⟩ = some (Value.int .i64 y.s') ∧ W9.drew.cell? ⟨g12, 4, none⟩ = some (Value.bool y.g') ∧ W9.drew.cell? ⟨g12, 5, none⟩ = some (Value.slice y.A' y.n' y.c')) ∧ (W9.drew.cell? ⟨g14, 0, none⟩ = some (Value.slice A1 n c1) ∧ W9.drew.cell? ⟨g14, 1, none⟩ = some (Value.int .i64 f1.2) ∧ W9.drew.cell? ⟨gm, om + kk * 2, none⟩ = some (Value.int .i64 mt) ∧ W9.drew.cell? ⟨gm, om + kk * 2 + 1, none⟩ = some (Value.int .i64 ml)) := And.intro (cx6 a12_0) (And.intro (qx2 a14_0).1 (And.intro (qx2 a14_0).2 (cm_0)))
              refine wp_region_U (n := 13) (fun W => (W.cell? ⟨g12, 0, none⟩ = some (Value.int .i64 y.s) ∧ W.cell? ⟨g12, 1, none⟩ = some (Value.bool y.g) ∧ W.cell? ⟨g12, 2, none⟩ = some (Value.slice y.A y.n y.c) ∧ W.cell? ⟨g12, 3, none⟩ = some (Value.int .i64 y.s') ∧ W.cell? ⟨g12, 4, none⟩ = some (Value.bool y.g') ∧ W.cell? ⟨g12, 5, none⟩ = some (Value.slice y.A' y.n' y.c')) ∧ (W.cell? ⟨g14, 0, none⟩ = some (Value.slice A1 n c1) ∧ W.cell? ⟨g14, 1, none⟩ = some (Value.int .i64 f1.2) ∧ W.cell? ⟨gm, om + kk * 2, none⟩ = some (Value.int .i64 mt) ∧ W.cell? ⟨gm, om + kk * 2 + 1, none⟩ = some (Value.int .i64 ml))) (by kernel_rfl) ?_
              refine wpU_take (n := 13) (i := 0) (v := ?_) (by decide) (by kernel_rfl) rfl (by kernel_rfl) (by kernel_rfl) (by kernel_rfl) (fun _ _ _ h => h) (by kernel_rfl) (Or.inl ⟨by rfl, ?_⟩) hS0 ?_
              rotate_left
              · intro w' hSw
                (try dsimp only at hSw)
                go_simp
                (try with_reducible rfl)
              try simp only [Act.put, List.setIfInBounds_toArray, List.set_cons_zero, List.set_cons_succ]
              refine wpU_take (n := 13) (i := 1) (v := ?_) (by decide) (by kernel_rfl) rfl (by kernel_rfl) (by kernel_rfl) (by kernel_rfl) (fun _ _ _ h => h) (by kernel_rfl) (Or.inl ⟨by rfl, ?_⟩) hS0 ?_
              rotate_left
              · intro w' hSw
                (try dsimp only at hSw)
                go_simp
                (try with_reducible rfl)
              try simp only [Act.put, List.setIfInBounds_toArray, List.set_cons_zero, List.set_cons_succ]
              refine wpU_take (n := 13) (i := 2) (v := ?_) (by decide) (by kernel_rfl) rfl (by kernel_rfl) (by kernel_rfl) (by kernel_rfl) (fun _ _ _ h => h) (by kernel_rfl) (Or.inl ⟨by rfl, ?_⟩) hS0 ?_
              rotate_left
              · intro w' hSw
                (try dsimp only at hSw)
                go_simp
                (try with_reducible rfl)
              try simp only [Act.put, List.setIfInBounds_toArray, List.set_cons_zero, List.set_cons_succ]
              refine wpU_take (n := 13) (i := 3) (v := ?_) (by decide) (by kernel_rfl) rfl (by kernel_rfl) (by kernel_rfl) (by kernel_rfl) (fun _ _ _ h => h) (by kernel_rfl) (Or.inl ⟨by rfl, ?_⟩) hS0 ?_
              rotate_left
              · intro w' hSw
                (try dsimp only at hSw)
                go_simp
                (try with_reducible rfl)
              try simp only [Act.put, List.setIfInBounds_toArray, List.set_cons_zero, List.set_cons_succ]
              refine wpU_take (n := 13) (i := 4) (v := ?_) (by decide) (by kernel_rfl) rfl (by kernel_rfl) (by kernel_rfl) (by kernel_rfl) (fun _ _ _ h => h) (by kernel_rfl) (Or.inl ⟨by rfl, ?_⟩) hS0 ?_
              rotate_left
              · intro w' hSw
                (try dsimp only at hSw)
                go_simp
                (try with_reducible rfl)
              try simp only [Act.put, List.setIfInBounds_toArray, List.set_cons_zero, List.set_cons_succ]
              refine wpU_take (n := 13) (i := 6) (v := ?_) (by decide) (by kernel_rfl) rfl (by kernel_rfl) (by kernel_rfl) (by kernel_rfl) (fun _ _ _ h => h) (by kernel_rfl) (Or.inl ⟨by rfl, ?_⟩) hS0 ?_
              rotate_left
              · intro w' hSw
                (try dsimp only at hSw)
                go_simp
                (try with_reducible rfl)
              try simp only [Act.put, List.setIfInBounds_toArray, List.set_cons_zero, List.set_cons_succ]
              refine wpU_take (n := 13) (i := 8) (v := ?_) (by decide) (by kernel_rfl) rfl (by kernel_rfl) (by kernel_rfl) (by kernel_rfl) (fun _ _ _ h => h) (by kernel_rfl) (Or.inl ⟨by rfl, ?_⟩) hS0 ?_
              rotate_left
              · intro w' hSw
                (try dsimp only at hSw)
                go_simp
                (try with_reducible rfl)
              try simp only [Act.put, List.setIfInBounds_toArray, List.set_cons_zero, List.set_cons_succ]
              refine wpU_one (n := 13) (i := 5) (by kernel_rfl) rfl (fun K9 hK9 => ?_)
              go_simp
              refine (rto_calls mt ml _ hmok).mono ?_
              rintro e y1 ⟨⟨s11, b11, A11, n11, c11, s11', b11', A11', n11', c11', rfl, t1⟩, hB1⟩
              have H1 : Below W9.heap.size W9 y1 := bl_then H0 hB1
              have a12_1 := blk_below a12 H1
              have a14_1 := blk_below a14 H1
              have cm_1 := cmB _ H1
              have hS1 : (y1.cell? ⟨g12, 0, none⟩ = some (Value.int .i64 y.s) ∧ y1.cell? ⟨g12, 1, none⟩ = some (Value.bool y.g) ∧ y1.cell? ⟨g12, 2, none⟩ = some (Value.slice y.A y.n y.c) ∧ y1.cell? ⟨g12, 3, none⟩ = some (Value.int .i64 y.s') ∧ y1.cell? ⟨g12, 4, none⟩ = some (Value.bool y.g') ∧ y1.cell? ⟨g12, 5, none⟩ = some (Value.slice y.A' y.n' y.c')) ∧ (y1.cell? ⟨g14, 0, none⟩ = some (Value.slice A1 n c1) ∧ y1.cell? ⟨g14, 1, none⟩ = some (Value.int .i64 f1.2) ∧ y1.cell? ⟨gm, om + kk * 2, none⟩ = some (Value.int .i64 mt) ∧ y1.cell? ⟨gm, om + kk * 2 + 1, none⟩ = some (Value.int .i64 ml)) := And.intro (cx6 a12_1) (And.intro (qx2 a14_1).1 (And.intro (qx2 a14_1).2 (cm_1)))
              refine hK9.out _ _ (fun _ _ => hS1) (fun _ => ?_)
              clear hK9 K9
              try simp only [Act.put, List.setIfInBounds_toArray, List.set_cons_zero, List.set_cons_succ]
              refine wpU_one (n := 13) (i := 7) (by kernel_rfl) rfl (fun K9 hK9 => ?_)
              go_simp
              refine (r2tot_calls A1 n c1 f1 _ (c4.below H1) h64 (by omega)).mono ?_
              rintro e y2 ⟨⟨A2, c2, x2, rfl, t2, t2'⟩, hB2⟩
              have H2 : Below W9.heap.size W9 y2 := bl_then H1 hB2
              have a12_2 := blk_below a12 H2
              have a14_2 := blk_below a14 H2
              have cm_2 := cmB _ H2
              have hS2 : (y2.cell? ⟨g12, 0, none⟩ = some (Value.int .i64 y.s) ∧ y2.cell? ⟨g12, 1, none⟩ = some (Value.bool y.g) ∧ y2.cell? ⟨g12, 2, none⟩ = some (Value.slice y.A y.n y.c) ∧ y2.cell? ⟨g12, 3, none⟩ = some (Value.int .i64 y.s') ∧ y2.cell? ⟨g12, 4, none⟩ = some (Value.bool y.g') ∧ y2.cell? ⟨g12, 5, none⟩ = some (Value.slice y.A' y.n' y.c')) ∧ (y2.cell? ⟨g14, 0, none⟩ = some (Value.slice A1 n c1) ∧ y2.cell? ⟨g14, 1, none⟩ = some (Value.int .i64 f1.2) ∧ y2.cell? ⟨gm, om + kk * 2, none⟩ = some (Value.int .i64 mt) ∧ y2.cell? ⟨gm, om + kk * 2 + 1, none⟩ = some (Value.int .i64 ml)) := And.intro (cx6 a12_2) (And.intro (qx2 a14_2).1 (And.intro (qx2 a14_2).2 (cm_2)))
              refine hK9.out _ _ (fun _ _ => hS2) (fun _ => ?_)
              clear hK9 K9
              try simp only [Act.put, List.setIfInBounds_toArray, List.set_cons_zero, List.set_cons_succ]
              refine wpU_one (n := 13) (i := 9) (by kernel_rfl) rfl (fun K9 hK9 => ?_)
              go_simp
              refine (r2rats_calls A4 n c4' x _ (hx4.below (bl_then BW9 H2)) HXI.out HXO.out (by omega)).mono ?_
              rintro e y3 ⟨⟨A3, c3, rfl, t3⟩, hB3⟩
              have H3 : Below W9.heap.size W9 y3 := bl_then H2 hB3
              have a12_3 := blk_below a12 H3
              have a14_3 := blk_below a14 H3
              have cm_3 := cmB _ H3
              have hS3 : (y3.cell? ⟨g12, 0, none⟩ = some (Value.int .i64 y.s) ∧ y3.cell? ⟨g12, 1, none⟩ = some (Value.bool y.g) ∧ y3.cell? ⟨g12, 2, none⟩ = some (Value.slice y.A y.n y.c) ∧ y3.cell? ⟨g12, 3, none⟩ = some (Value.int .i64 y.s') ∧ y3.cell? ⟨g12, 4, none⟩ = some (Value.bool y.g') ∧ y3.cell? ⟨g12, 5, none⟩ = some (Value.slice y.A' y.n' y.c')) ∧ (y3.cell? ⟨g14, 0, none⟩ = some (Value.slice A1 n c1) ∧ y3.cell? ⟨g14, 1, none⟩ = some (Value.int .i64 f1.2) ∧ y3.cell? ⟨gm, om + kk * 2, none⟩ = some (Value.int .i64 mt) ∧ y3.cell? ⟨gm, om + kk * 2 + 1, none⟩ = some (Value.int .i64 ml)) := And.intro (cx6 a12_3) (And.intro (qx2 a14_3).1 (And.intro (qx2 a14_3).2 (cm_3)))
              refine hK9.out _ _ (fun _ _ => hS3) (fun _ => ?_)
              clear hK9 K9
              try simp only [Act.put, List.setIfInBounds_toArray, List.set_cons_zero, List.set_cons_succ]
              refine wpU_one (n := 13) (i := 10) (by kernel_rfl) rfl (fun K9 hK9 => ?_)
              go_simp
              refine (r2eval_calls A2 n c2 x2 f1.1 f1.2 A3 c3 (x.map ratP) _ (t2.1.below hB3) (RV.kp t2' (Kp.below hB3)) t3 hn8 HF1.out HX1.out).mono ?_
              rintro e y4 ⟨⟨s4, b4, A4, n4, c4, s4', b4', A4', n4', c4', rfl, t4⟩, hB4⟩
              have H4 : Below W9.heap.size W9 y4 := bl_then H3 hB4
              have a12_4 := blk_below a12 H4
              have a14_4 := blk_below a14 H4
              have cm_4 := cmB _ H4
              have hS4 : (y4.cell? ⟨g12, 0, none⟩ = some (Value.int .i64 y.s) ∧ y4.cell? ⟨g12, 1, none⟩ = some (Value.bool y.g) ∧ y4.cell? ⟨g12, 2, none⟩ = some (Value.slice y.A y.n y.c) ∧ y4.cell? ⟨g12, 3, none⟩ = some (Value.int .i64 y.s') ∧ y4.cell? ⟨g12, 4, none⟩ = some (Value.bool y.g') ∧ y4.cell? ⟨g12, 5, none⟩ = some (Value.slice y.A' y.n' y.c')) ∧ (y4.cell? ⟨g14, 0, none⟩ = some (Value.slice A1 n c1) ∧ y4.cell? ⟨g14, 1, none⟩ = some (Value.int .i64 f1.2) ∧ y4.cell? ⟨gm, om + kk * 2, none⟩ = some (Value.int .i64 mt) ∧ y4.cell? ⟨gm, om + kk * 2 + 1, none⟩ = some (Value.int .i64 ml)) := And.intro (cx6 a12_4) (And.intro (qx2 a14_4).1 (And.intro (qx2 a14_4).2 (cm_4)))
              refine hK9.out _ _ (fun _ _ => hS4) (fun _ => ?_)
              clear hK9 K9
              try simp only [Act.put, List.setIfInBounds_toArray, List.set_cons_zero, List.set_cons_succ]
              refine wpU_one (n := 13) (i := 11) (by kernel_rfl) rfl (fun K9 hK9 => ?_)
              go_simp
              refine (rrtimes_calls s11 b11 A11 n11 c11 s11' b11' A11' n11' c11' (ratQ (mt, ml)) s4 b4 A4 n4 c4 s4' b4' A4' n4' c4' (valK (rowF f1) (x.map ratP) n) _ (RRV.below t1 (bl_then (bl_then hB2 hB3) hB4)) t4 2000 HMQ1.out HV1.out (by omega)).mono ?_
              rintro e y5 ⟨⟨s5, b5, A5, n5, c5, s5', b5', A5', n5', c5', rfl, t5⟩, hB5⟩
              have H5 : Below W9.heap.size W9 y5 := bl_then H4 hB5
              have a12_5 := blk_below a12 H5
              have a14_5 := blk_below a14 H5
              have cm_5 := cmB _ H5
              have hS5 : (y5.cell? ⟨g12, 0, none⟩ = some (Value.int .i64 y.s) ∧ y5.cell? ⟨g12, 1, none⟩ = some (Value.bool y.g) ∧ y5.cell? ⟨g12, 2, none⟩ = some (Value.slice y.A y.n y.c) ∧ y5.cell? ⟨g12, 3, none⟩ = some (Value.int .i64 y.s') ∧ y5.cell? ⟨g12, 4, none⟩ = some (Value.bool y.g') ∧ y5.cell? ⟨g12, 5, none⟩ = some (Value.slice y.A' y.n' y.c')) ∧ (y5.cell? ⟨g14, 0, none⟩ = some (Value.slice A1 n c1) ∧ y5.cell? ⟨g14, 1, none⟩ = some (Value.int .i64 f1.2) ∧ y5.cell? ⟨gm, om + kk * 2, none⟩ = some (Value.int .i64 mt) ∧ y5.cell? ⟨gm, om + kk * 2 + 1, none⟩ = some (Value.int .i64 ml)) := And.intro (cx6 a12_5) (And.intro (qx2 a14_5).1 (And.intro (qx2 a14_5).2 (cm_5)))
              refine hK9.out _ _ (fun _ _ => hS5) (fun _ => ?_)
              clear hK9 K9
              try simp only [Act.put, List.setIfInBounds_toArray, List.set_cons_zero, List.set_cons_succ]
              refine wpU_one (n := 13) (i := 12) (by kernel_rfl) rfl (fun K9 hK9 => ?_)
              go_simp
              refine (rrplus_calls y.s y.g y.A y.n y.c y.s' y.g' y.A' y.n' y.c' sk s5 b5 A5 n5 c5 s5' b5' A5' n5' c5' (ratQ (mt, ml) * valK (rowF f1) (x.map ratP) n) _ (RRV.below ty H5) t5 300000 HSK.out HPK.out (by omega)).mono ?_
              rintro e y6 ⟨⟨s6, b6, A6, n6, c6, s6', b6', A6', n6', c6', rfl, t6⟩, hB6⟩
              have H6 : Below W9.heap.size W9 y6 := bl_then H5 hB6
              have a12_6 := blk_below a12 H6
              have a14_6 := blk_below a14 H6
              have cm_6 := cmB _ H6
              have hS6 : (y6.cell? ⟨g12, 0, none⟩ = some (Value.int .i64 y.s) ∧ y6.cell? ⟨g12, 1, none⟩ = some (Value.bool y.g) ∧ y6.cell? ⟨g12, 2, none⟩ = some (Value.slice y.A y.n y.c) ∧ y6.cell? ⟨g12, 3, none⟩ = some (Value.int .i64 y.s') ∧ y6.cell? ⟨g12, 4, none⟩ = some (Value.bool y.g') ∧ y6.cell? ⟨g12, 5, none⟩ = some (Value.slice y.A' y.n' y.c')) ∧ (y6.cell? ⟨g14, 0, none⟩ = some (Value.slice A1 n c1) ∧ y6.cell? ⟨g14, 1, none⟩ = some (Value.int .i64 f1.2) ∧ y6.cell? ⟨gm, om + kk * 2, none⟩ = some (Value.int .i64 mt) ∧ y6.cell? ⟨gm, om + kk * 2 + 1, none⟩ = some (Value.int .i64 ml)) := And.intro (cx6 a12_6) (And.intro (qx2 a14_6).1 (And.intro (qx2 a14_6).2 (cm_6)))
              obtain ⟨⟨k1, k2, k3, k4, k5, k6⟩, k7⟩ := bx6 a12_6
              refine hK9.out _ _ (fun _ _ => hS6) (fun _ => ?_)
              clear hK9 K9
              try simp only [Act.put, List.setIfInBounds_toArray, List.set_cons_zero, List.set_cons_succ]
              refine wpU_one (n := 13) (i := 13) (by kernel_rfl) rfl (fun K9 hK9 => ?_)
              go_simp
              refine hK9.out _ _ (fun _ h => absurd rfl h) (fun _ => ?_)
              clear hK9 K9
              try simp only [Act.put, List.setIfInBounds_toArray, List.set_cons_zero, List.set_cons_succ]
              refine wpU_done (by kernel_rfl) ?_ _
              rw [HNX.out] at t6
              have V1 := blk_set6 a12_6 (.int .i64 s6) (.bool b6) (.slice A6 n6 c6) (.int .i64 s6') (.bool b6') (.slice A6' n6' c6')
              have V2 : RRV _ s6 b6 A6 n6 c6 s6' b6' A6' n6' c6' _ := t6.kp (kp_set6 a12_6 (.int .i64 s6) (.bool b6) (.slice A6 n6 c6) (.int .i64 s6') (.bool b6') (.slice A6' n6' c6'))
              have V3 := blk_far6 (blk_below ap H6) hg9 (.int .i64 s6) (.bool b6) (.slice A6 n6 c6) (.int .i64 s6') (.bool b6') (.slice A6' n6' c6')
              have V4 := RdI.kp (tp.below H6) (kp_set6 a12_6 (.int .i64 s6) (.bool b6) (.slice A6 n6 c6) (.int .i64 s6') (.bool b6') (.slice A6' n6' c6'))
              have V5 := bl_set6 (bl_then B0 H6) hgb (.int .i64 s6) (.bool b6) (.slice A6 n6 c6) (.int .i64 s6') (.bool b6') (.slice A6' n6' c6')
              have HV1' := Lib.hid V1
              have HV2' := Lib.hid V2
              have HV3' := Lib.hid V3
              have HV4' := Lib.hid V4
              have HV5' := Lib.hid V5
              clear V1 V2 V3 V4 V5 hS0 hS1 hS2 hS3 hS4 hS5 hS6
              go_wp2
              go_roundw
              case rel => exact ⟨kk + 1, ⟨s6, b6, A6, n6, c6, s6', b6', A6', n6', c6'⟩, hlt, by go_num, HV1'.out, HV2'.out, HV3'.out, HV4'.out, HV5'.out⟩
              case measure => simp [intOf]; omega
            · have hkn : m = kk := by omega
              subst hkn
              clear hvk hsk
              generalize liS F M (x.map ratP) n m = sk at *
              have HCM : Hid ((sk - sk).num.sign = 0) := Lib.hid (by rw [Rat.sub_self]; rfl)
              go_upto_region 14 with (fail)
              generalize wr = W9 at *
              have H0 : Below W9.heap.size W9 W9.drew := bl_drew (Below.refl _ _)
              have a12_0 := blk_drew a12
              have ap_0 := blk_drew ap
              have hS0 : (W9.drew.cell? ⟨g12, 0, none⟩ = some (Value.int .i64 y.s) ∧ W9.drew.cell? ⟨g12, 1, none⟩ = some (Value.bool y.g) ∧ W9.drew.cell? ⟨g12, 2, none⟩ = some (Value.slice y.A y.n y.c) ∧ W9.drew.cell? ⟨g12, 3, none⟩ = some (Value.int .i64 y.s') ∧ W9.drew.cell? ⟨g12, 4, none⟩ = some (Value.bool y.g') ∧ W9.drew.cell? ⟨g12, 5, none⟩ = some (Value.slice y.A' y.n' y.c')) ∧ (W9.drew.cell? ⟨g9, 0, none⟩ = some (Value.slice Ap n cp) ∧ W9.drew.cell? ⟨g9, 1, none⟩ = some (Value.int .i64 p.2)) := And.intro (cx6 a12_0) (qx2 ap_0)
              refine wp_region_U (n := 14) (fun W => (W.cell? ⟨g12, 0, none⟩ = some (Value.int .i64 y.s) ∧ W.cell? ⟨g12, 1, none⟩ = some (Value.bool y.g) ∧ W.cell? ⟨g12, 2, none⟩ = some (Value.slice y.A y.n y.c) ∧ W.cell? ⟨g12, 3, none⟩ = some (Value.int .i64 y.s') ∧ W.cell? ⟨g12, 4, none⟩ = some (Value.bool y.g') ∧ W.cell? ⟨g12, 5, none⟩ = some (Value.slice y.A' y.n' y.c')) ∧ (W.cell? ⟨g9, 0, none⟩ = some (Value.slice Ap n cp) ∧ W.cell? ⟨g9, 1, none⟩ = some (Value.int .i64 p.2))) (by kernel_rfl) ?_
              refine wpU_take (n := 14) (i := 0) (v := ?_) (by decide) (by kernel_rfl) rfl (by kernel_rfl) (by kernel_rfl) (by kernel_rfl) (fun _ _ _ h => h) (by kernel_rfl) (Or.inl ⟨by rfl, ?_⟩) hS0 ?_
              rotate_left
              · intro w' hSw
                (try dsimp only at hSw)
                go_simp
                (try with_reducible rfl)
              try simp only [Act.put, List.setIfInBounds_toArray, List.set_cons_zero, List.set_cons_succ]
              refine wpU_take (n := 14) (i := 2) (v := ?_) (by decide) (by kernel_rfl) rfl (by kernel_rfl) (by kernel_rfl) (by kernel_rfl) (fun _ _ _ h => h) (by kernel_rfl) (Or.inl ⟨by rfl, ?_⟩) hS0 ?_
              rotate_left
              · intro w' hSw
                (try dsimp only at hSw)
                go_simp
                (try with_reducible rfl)
              try simp only [Act.put, List.setIfInBounds_toArray, List.set_cons_zero, List.set_cons_succ]
              refine wpU_take (n := 14) (i := 5) (v := ?_) (by decide) (by kernel_rfl) rfl (by kernel_rfl) (by kernel_rfl) (by kernel_rfl) (fun _ _ _ h => h) (by kernel_rfl) (Or.inl ⟨by rfl, ?_⟩) hS0 ?_
              rotate_left
              · intro w' hSw
                (try dsimp only at hSw)
                go_simp
                (try with_reducible rfl)
              try simp only [Act.put, List.setIfInBounds_toArray, List.set_cons_zero, List.set_cons_succ]
              refine wpU_take (n := 14) (i := 8) (v := ?_) (by decide) (by kernel_rfl) rfl (by kernel_rfl) (by kernel_rfl) (by kernel_rfl) (fun _ _ _ h => h) (by kernel_rfl) (Or.inl ⟨by rfl, ?_⟩) hS0 ?_
              rotate_left
              · intro w' hSw
                (try dsimp only at hSw)
                go_simp
                (try with_reducible rfl)
              try simp only [Act.put, List.setIfInBounds_toArray, List.set_cons_zero, List.set_cons_succ]
              refine wpU_one (n := 14) (i := 1) (by kernel_rfl) rfl (fun K9 hK9 => ?_)
              go_simp
              refine (r2tot_calls Ap n cp p _ (tp.toC.below H0) HPI.out (by omega)).mono ?_
              rintro e y2 ⟨⟨A2, c2, x2, rfl, t2, t2'⟩, hB2⟩
              have H2 : Below W9.heap.size W9 y2 := bl_then H0 hB2
              have a12_2 := blk_below a12 H2
              have ap_2 := blk_below ap H2
              have hS2 : (y2.cell? ⟨g12, 0, none⟩ = some (Value.int .i64 y.s) ∧ y2.cell? ⟨g12, 1, none⟩ = some (Value.bool y.g) ∧ y2.cell? ⟨g12, 2, none⟩ = some (Value.slice y.A y.n y.c) ∧ y2.cell? ⟨g12, 3, none⟩ = some (Value.int .i64 y.s') ∧ y2.cell? ⟨g12, 4, none⟩ = some (Value.bool y.g') ∧ y2.cell? ⟨g12, 5, none⟩ = some (Value.slice y.A' y.n' y.c')) ∧ (y2.cell? ⟨g9, 0, none⟩ = some (Value.slice Ap n cp) ∧ y2.cell? ⟨g9, 1, none⟩ = some (Value.int .i64 p.2)) := And.intro (cx6 a12_2) (qx2 ap_2)
              refine hK9.out _ _ (fun _ _ => hS2) (fun _ => ?_)
              clear hK9 K9
              try simp only [Act.put, List.setIfInBounds_toArray, List.set_cons_zero, List.set_cons_succ]
              refine wpU_one (n := 14) (i := 3) (by kernel_rfl) rfl (fun K9 hK9 => ?_)
              go_simp
              refine (r2rats_calls A4 n c4' x _ (hx4.below (bl_then B0 H2)) HXI.out HXO.out (by omega)).mono ?_
              rintro e y3 ⟨⟨A3, c3, rfl, t3⟩, hB3⟩
              have H3 : Below W9.heap.size W9 y3 := bl_then H2 hB3
              have a12_3 := blk_below a12 H3
              have ap_3 := blk_below ap H3
              have hS3 : (y3.cell? ⟨g12, 0, none⟩ = some (Value.int .i64 y.s) ∧ y3.cell? ⟨g12, 1, none⟩ = some (Value.bool y.g) ∧ y3.cell? ⟨g12, 2, none⟩ = some (Value.slice y.A y.n y.c) ∧ y3.cell? ⟨g12, 3, none⟩ = some (Value.int .i64 y.s') ∧ y3.cell? ⟨g12, 4, none⟩ = some (Value.bool y.g') ∧ y3.cell? ⟨g12, 5, none⟩ = some (Value.slice y.A' y.n' y.c')) ∧ (y3.cell? ⟨g9, 0, none⟩ = some (Value.slice Ap n cp) ∧ y3.cell? ⟨g9, 1, none⟩ = some (Value.int .i64 p.2)) := And.intro (cx6 a12_3) (qx2 ap_3)
              refine hK9.out _ _ (fun _ _ => hS3) (fun _ => ?_)
              clear hK9 K9
              try simp only [Act.put, List.setIfInBounds_toArray, List.set_cons_zero, List.set_cons_succ]
              refine wpU_one (n := 14) (i := 4) (by kernel_rfl) rfl (fun K9 hK9 => ?_)
              go_simp
              refine (r2eval_calls A2 n c2 x2 p.1 p.2 A3 c3 (x.map ratP) _ (t2.1.below hB3) (RV.kp t2' (Kp.below hB3)) t3 hn8 HPS.out HX1.out).mono ?_
              rintro e y4 ⟨⟨s4, b4, A4, n4, c4, s4', b4', A4', n4', c4', rfl, t4⟩, hB4⟩
              have H4 : Below W9.heap.size W9 y4 := bl_then H3 hB4
              have a12_4 := blk_below a12 H4
              have ap_4 := blk_below ap H4
              have hS4 : (y4.cell? ⟨g12, 0, none⟩ = some (Value.int .i64 y.s) ∧ y4.cell? ⟨g12, 1, none⟩ = some (Value.bool y.g) ∧ y4.cell? ⟨g12, 2, none⟩ = some (Value.slice y.A y.n y.c) ∧ y4.cell? ⟨g12, 3, none⟩ = some (Value.int .i64 y.s') ∧ y4.cell? ⟨g12, 4, none⟩ = some (Value.bool y.g') ∧ y4.cell? ⟨g12, 5, none⟩ = some (Value.slice y.A' y.n' y.c')) ∧ (y4.cell? ⟨g9, 0, none⟩ = some (Value.slice Ap n cp) ∧ y4.cell? ⟨g9, 1, none⟩ = some (Value.int .i64 p.2)) := And.intro (cx6 a12_4) (qx2 ap_4)
              refine hK9.out _ _ (fun _ _ => hS4) (fun _ => ?_)
              clear hK9 K9
              try simp only [Act.put, List.setIfInBounds_toArray, List.set_cons_zero, List.set_cons_succ]
              refine wpU_one (n := 14) (i := 6) (by kernel_rfl) rfl (fun K9 hK9 => ?_)
              go_simp
              refine (rrwhole_calls k _ (by omega) (by omega)).mono ?_
              rintro e y5 ⟨⟨s5, b5, A5, n5, c5, s5', b5', A5', n5', c5', rfl, t5⟩, hB5⟩
              have H5 : Below W9.heap.size W9 y5 := bl_then H4 hB5
              have a12_5 := blk_below a12 H5
              have ap_5 := blk_below ap H5
              have hS5 : (y5.cell? ⟨g12, 0, none⟩ = some (Value.int .i64 y.s) ∧ y5.cell? ⟨g12, 1, none⟩ = some (Value.bool y.g) ∧ y5.cell? ⟨g12, 2, none⟩ = some (Value.slice y.A y.n y.c) ∧ y5.cell? ⟨g12, 3, none⟩ = some (Value.int .i64 y.s') ∧ y5.cell? ⟨g12, 4, none⟩ = some (Value.bool y.g') ∧ y5.cell? ⟨g12, 5, none⟩ = some (Value.slice y.A' y.n' y.c')) ∧ (y5.cell? ⟨g9, 0, none⟩ = some (Value.slice Ap n cp) ∧ y5.cell? ⟨g9, 1, none⟩ = some (Value.int .i64 p.2)) := And.intro (cx6 a12_5) (qx2 ap_5)
              refine hK9.out _ _ (fun _ _ => hS5) (fun _ => ?_)
              clear hK9 K9
              try simp only [Act.put, List.setIfInBounds_toArray, List.set_cons_zero, List.set_cons_succ]
              refine wpU_one (n := 14) (i := 7) (by kernel_rfl) rfl (fun K9 hK9 => ?_)
              go_simp
              refine (rrover_calls s4 b4 A4 n4 c4 s4' b4' A4' n4' c4' (valK (rowF p) (x.map ratP) n) s5 b5 A5 n5 c5 s5' b5' A5' n5' c5' ((k : Int) : Rat) _ (RRV.below t4 hB5) t5 2000 HPV.out HKS.out (by omega) HKN.out).mono ?_
              rintro e y6 ⟨⟨s6, b6, A6, n6, c6, s6', b6', A6', n6', c6', rfl, t6⟩, hB6⟩
              have H6 : Below W9.heap.size W9 y6 := bl_then H5 hB6
              have a12_6 := blk_below a12 H6
              have ap_6 := blk_below ap H6
              have hS6 : (y6.cell? ⟨g12, 0, none⟩ = some (Value.int .i64 y.s) ∧ y6.cell? ⟨g12, 1, none⟩ = some (Value.bool y.g) ∧ y6.cell? ⟨g12, 2, none⟩ = some (Value.slice y.A y.n y.c) ∧ y6.cell? ⟨g12, 3, none⟩ = some (Value.int .i64 y.s') ∧ y6.cell? ⟨g12, 4, none⟩ = some (Value.bool y.g') ∧ y6.cell? ⟨g12, 5, none⟩ = some (Value.slice y.A' y.n' y.c')) ∧ (y6.cell? ⟨g9, 0, none⟩ = some (Value.slice Ap n cp) ∧ y6.cell? ⟨g9, 1, none⟩ = some (Value.int .i64 p.2)) := And.intro (cx6 a12_6) (qx2 ap_6)
              rw [HEQ.out] at t6
              refine hK9.out _ _ (fun _ _ => hS6) (fun _ => ?_)
              clear hK9 K9
              try simp only [Act.put, List.setIfInBounds_toArray, List.set_cons_zero, List.set_cons_succ]
              refine wpU_one (n := 14) (i := 9) (by kernel_rfl) rfl (fun K9 hK9 => ?_)
              go_simp
              refine (rrcmp_calls s6 b6 A6 n6 c6 s6' b6' A6' n6' c6' sk y.s y.g y.A y.n y.c y.s' y.g' y.A' y.n' y.c' sk _ t6 (RRV.below ty H6) 300000 HSK.out HSK.out (by omega)).mono ?_
              rintro e y7 ⟨rfl, hB7⟩
              rw [HCM.out]
              have H7 : Below W9.heap.size W9 y7 := bl_then H6 hB7
              have a12_7 := blk_below a12 H7
              have ap_7 := blk_below ap H7
              have hS7 : (y7.cell? ⟨g12, 0, none⟩ = some (Value.int .i64 y.s) ∧ y7.cell? ⟨g12, 1, none⟩ = some (Value.bool y.g) ∧ y7.cell? ⟨g12, 2, none⟩ = some (Value.slice y.A y.n y.c) ∧ y7.cell? ⟨g12, 3, none⟩ = some (Value.int .i64 y.s') ∧ y7.cell? ⟨g12, 4, none⟩ = some (Value.bool y.g') ∧ y7.cell? ⟨g12, 5, none⟩ = some (Value.slice y.A' y.n' y.c')) ∧ (y7.cell? ⟨g9, 0, none⟩ = some (Value.slice Ap n cp) ∧ y7.cell? ⟨g9, 1, none⟩ = some (Value.int .i64 p.2)) := And.intro (cx6 a12_7) (qx2 ap_7)
              refine hK9.out _ _ (fun _ _ => hS7) (fun _ => ?_)
              clear hK9 K9
              try simp only [Act.put, List.setIfInBounds_toArray, List.set_cons_zero, List.set_cons_succ]
              refine wpU_one (n := 14) (i := 10) (by kernel_rfl) rfl (fun K9 hK9 => ?_)
              go_simp
              refine hK9.out _ _ (fun _ _ => hS7) (fun _ => ?_)
              clear hK9 K9
              try simp only [Act.put, List.setIfInBounds_toArray, List.set_cons_zero, List.set_cons_succ]
              refine wpU_one (n := 14) (i := 11) (by kernel_rfl) rfl (fun K9 hK9 => ?_)
              go_simp
              refine hK9.out _ _ (fun _ _ => hS7) (fun _ => ?_)
              clear hK9 K9
              try simp only [Act.put, List.setIfInBounds_toArray, List.set_cons_zero, List.set_cons_succ]
              refine wpU_one (n := 14) (i := 12) (by kernel_rfl) rfl (fun K9 hK9 => ?_)
              go_simp
              refine (lawake_calls _).mono ?_
              rintro e y8 ⟨rfl, hB8⟩
              have H8 : Below W9.heap.size W9 y8 := bl_then H7 hB8
              have a12_8 := blk_below a12 H8
              have ap_8 := blk_below ap H8
              have hS8 : (y8.cell? ⟨g12, 0, none⟩ = some (Value.int .i64 y.s) ∧ y8.cell? ⟨g12, 1, none⟩ = some (Value.bool y.g) ∧ y8.cell? ⟨g12, 2, none⟩ = some (Value.slice y.A y.n y.c) ∧ y8.cell? ⟨g12, 3, none⟩ = some (Value.int .i64 y.s') ∧ y8.cell? ⟨g12, 4, none⟩ = some (Value.bool y.g') ∧ y8.cell? ⟨g12, 5, none⟩ = some (Value.slice y.A' y.n' y.c')) ∧ (y8.cell? ⟨g9, 0, none⟩ = some (Value.slice Ap n cp) ∧ y8.cell? ⟨g9, 1, none⟩ = some (Value.int .i64 p.2)) := And.intro (cx6 a12_8) (qx2 ap_8)
              refine hK9.out _ _ (fun _ _ => hS8) (fun _ => ?_)
              clear hK9 K9
              try simp only [Act.put, List.setIfInBounds_toArray, List.set_cons_zero, List.set_cons_succ]
              refine wpU_one (n := 14) (i := 13) (by kernel_rfl) rfl (fun K9 hK9 => ?_)
              go_simp
              refine hK9.out _ _ (fun _ _ => hS8) (fun _ => ?_)
              clear hK9 K9
              try simp only [Act.put, List.setIfInBounds_toArray, List.set_cons_zero, List.set_cons_succ]
              refine wpU_one (n := 14) (i := 14) (by kernel_rfl) rfl (fun K9 hK9 => ?_)
              go_simp
              refine hK9.out _ _ (fun _ h => absurd rfl h) (fun _ => ?_)
              clear hK9 K9
              try simp only [Act.put, List.setIfInBounds_toArray, List.set_cons_zero, List.set_cons_succ]
              refine wpU_done (by kernel_rfl) ?_ _
              go_wp2
              go_ret
              exact ⟨rfl, bl_then B0 H8⟩
        · have d3 : (e0 != 0) = true := by simpa using he0
          have d4 : decide (e0 = 0) = false := decide_eq_false he0
          clear HOK tp
          generalize e0 = e1 at *
          replace B0 := bl_alloc B0 (.cells #[.slice Ap np cp, .int .i64 p.2] 44)
          go_wp2_with fail
          refine (lawake_calls _).mono ?_
          rintro e wz ⟨rfl, hBz⟩
          have Bz := bl_then B0 hBz
          go_wp2
          go_ret
          exact ⟨rfl, Bz⟩
      · rw [decide_eq_false hox] at he
        subst he
        clear hox
        go_wp2_with fail
        refine (lawake_calls _).mono ?_
        rintro e wz ⟨rfl, hBz⟩
        have Bz := bl_then B0 hBz
        go_wp2
        go_ret
        exact ⟨rfl, Bz⟩
    · have d1 : (140 : Int) < (m' : Int) := by omega
      have d2 : decide ((140 : Int) < (m' : Int)) = true := decide_eq_true d1
      go_wp2_with fail
      refine (lawake_calls _).mono ?_
      rintro e wz ⟨rfl, hBz⟩
      have Bz := bl_then B0 hBz
      go_wp2
      go_ret
      exact ⟨rfl, Bz⟩
  · rw [decide_eq_false hfew] at he
    subst he
    clear hfew
    go_wp2_with fail
    refine (lawake_calls _).mono ?_
    rintro e wz ⟨rfl, hBz⟩
    have Bz := bl_then B0 hBz
    go_wp2
    go_ret
    exact ⟨rfl, Bz⟩
end Go.Proofs.YtloplmmnmehkmaaGreat
