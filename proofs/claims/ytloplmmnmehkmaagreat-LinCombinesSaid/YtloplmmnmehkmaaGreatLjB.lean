/- LinCombines: plain law. lin: all over numbers. lin: Combine. Reference 02: ValidPoint, Rats, Eval. Reference 02: From. few, of a list of forms. Reference 02: Zero. -/
import Derived.Test.YtloplmmnmehkmaaGreatLjA
import Derived.Lib.SliceRun
import Derived.Laws.CopyOwn
import Derived.StillTailTactics
set_option linter.unusedVariables false
set_option linter.unusedSimpArgs false
namespace Go.Proofs.YtloplmmnmehkmaaGreat
open Go.RowKit

def ratQ (x : Int × Int) : Rat := Rat.divInt x.1 x.2
/-- The sum of the first k products. -/
def smK (n : Nat) (F : List Fm) (M : List (Int × Int)) : Nat → Rw
 | 0 => (List.replicate n 0, 0)
 | k + 1 => pls (smK n F M k) (tms (rowF (F.getD k ([], 0))) (ratQ (M.getD k (0, 0))))
def cbQ (n : Nat) (F : List Fm) (M : List (Int × Int)) : List Rat := (smK n F M F.length).1 ++ [(smK n F M F.length).2] ++ [1]
/-- The common denominator of the first k numbers. -/
def kM (M : List (Int × Int)) : Nat → Int
 | 0 => 1
 | k + 1 => kM M k * ((ratQ (M.getD k (0, 0))).den : Int).tdiv (Int.gcd (kM M k) ((ratQ (M.getD k (0, 0))).den : Int) : Int)
def gZ (n : Nat) (F : List Fm) (M : List (Int × Int)) (K : Int) : Nat → Fm
 | 0 => (List.replicate n 0, 0)
 | k + 1 => plF n (gZ n F M K k) (tmZ (F.getD k ([], 0)) ((ratQ (M.getD k (0, 0))).num * K.tdiv ((ratQ (M.getD k (0, 0))).den : Int)))
def gcZ (n : Nat) (g : Fm) (K : Int) : Int := (Int.gcd (dK g.1 g.2 n) K : Int)
theorem kM_pos (M : List (Int × Int)) (k : Nat) : 0 < kM M k ∧ kM M k ∣ kM M (k + 1) ∧ ((ratQ (M.getD k (0, 0))).den : Int) ∣ kM M (k + 1) := by
 induction k with
 | zero =>
  refine ⟨(by show (0 : Int) < 1; decide), Int.dvd_mul_right _ _, ?_⟩
  show _ ∣ (1 : Int) * _
  have hg : (Int.gcd (kM M 0) ((ratQ (M.getD 0 (0, 0))).den : Int) : Int) = 1 := by show ((Int.gcd 1 _ : Nat) : Int) = 1; simp
  rw [hg, Int.tdiv_one, Int.one_mul]; exact Int.dvd_refl _
 | succ k ih =>
  have hp : 0 < kM M (k + 1) := by
   have hd := (ratQ (M.getD k (0, 0))).den_pos
   have h1 : (Int.gcd (kM M k) ((ratQ (M.getD k (0, 0))).den : Int) : Int) ∣ ((ratQ (M.getD k (0, 0))).den : Int) := Int.gcd_dvd_right ..
   obtain ⟨u, hu⟩ := h1
   have hg : (0 : Int) < (Int.gcd (kM M k) ((ratQ (M.getD k (0, 0))).den : Int) : Int) := by
    have := Int.gcd_pos_of_ne_zero_left ((ratQ (M.getD k (0, 0))).den : Int) (show kM M k ≠ 0 by omega)
    omega
   have hd' : (0 : Int) < ((ratQ (M.getD k (0, 0))).den : Int) := by omega
   show 0 < kM M k * _
   refine Int.mul_pos ih.1 ?_
   rw [Int.tdiv_eq_ediv_of_dvd ⟨u, hu⟩]
   exact Int.ediv_pos_of_pos_of_dvd hd' (by omega) ⟨u, hu⟩
  refine ⟨hp, Int.dvd_mul_right _ _, ?_⟩
  show _ ∣ kM M (k + 1) * _
  generalize kM M (k + 1) = K at *
  generalize ((ratQ (M.getD (k + 1) (0, 0))).den : Int) = d at *
  have h1 : (Int.gcd K d : Int) ∣ d := Int.gcd_dvd_right ..
  have h2 : (Int.gcd K d : Int) ∣ K := Int.gcd_dvd_left ..
  obtain ⟨u, hu⟩ := h2
  have hg : (Int.gcd K d : Int) ≠ 0 := fun e => by rw [e, Int.zero_mul] at hu; omega
  obtain ⟨v, hv⟩ := h1
  have e : d.tdiv (Int.gcd K d : Int) = v := by
   rw [Int.tdiv_eq_ediv_of_dvd ⟨v, hv⟩]
   exact Int.ediv_eq_of_eq_mul_right hg hv
  rw [e]
  refine ⟨u, ?_⟩
  generalize (Int.gcd K d : Int) = g at *
  rw [hu, hv, Int.mul_right_comm]
theorem kM_dvd (M : List (Int × Int)) (k j : Nat) : ((ratQ (M.getD k (0, 0))).den : Int) ∣ kM M (k + 1 + j) := by
 induction j with
 | zero => exact (kM_pos M k).2.2
 | succ j ih => exact Int.dvd_trans ih (kM_pos M (k + 1 + j)).2.1
theorem smK_len {n : Nat} {F : List Fm} (M : List (Int × Int)) (hF : ∀ j, j < F.length → (F.getD j ([], 0)).1.length = n) (k : Nat) (hk : k ≤ F.length) : (smK n F M k).1.length = n := by
 induction k with
 | zero => exact List.length_replicate ..
 | succ k ih =>
  have h1 := ih (by omega)
  show (pls _ _).1.length = n
  rw [pls_len _ _ (by rw [tms_len, rowF_len, hF k (by omega), h1])]
  exact h1
theorem gZ_len {n : Nat} {F : List Fm} (M : List (Int × Int)) (K : Int) (k : Nat) : (gZ n F M K k).1.length = n := by
 cases k with
 | zero => exact List.length_replicate ..
 | succ k => exact plF_len _ _
/-- The reference's sum is a multiple of the sum. -/
theorem gZ_sm {n : Nat} {F : List Fm} (M : List (Int × Int)) (hF : ∀ j, j < F.length → (F.getD j ([], 0)).1.length = n) (hM : F.length = M.length) (k : Nat) (hk : k ≤ F.length) (i : Nat) :
  rv (rowF (gZ n F M (kM M M.length) k)) i = ((kM M M.length : Int) : Rat) * rv (smK n F M k) i := by
 induction k with
 | zero =>
  have e : rowF (gZ n F M (kM M M.length) 0) = smK n F M 0 := by
   refine Prod.ext ?_ rfl
   show (List.replicate n (0 : Int)).map (fun x : Int => (x : Rat)) = List.replicate n 0
   rw [List.map_replicate]; rfl
  have hz : rv (smK n F M 0) i = 0 := by
   show ((List.replicate n (0 : Rat)) ++ [0]).getD i 0 = 0
   have e2 : (List.replicate n (0 : Rat)) ++ [0] = List.replicate (n + 1) 0 := by rw [List.replicate_succ']
   rw [e2, List.getD_eq_getElem?_getD, List.getElem?_replicate]
   split <;> rfl
  rw [e, hz]; grind
 | succ k ih =>
  have ih := ih (by omega)
  have hd := kM_dvd M k (M.length - (k + 1))
  rw [show k + 1 + (M.length - (k + 1)) = M.length by omega] at hd
  have hl := hF k (by omega)
  have hsl := smK_len M hF k (by omega)
  show rv (rowF (plF n (gZ n F M (kM M M.length) k) (tmZ (F.getD k ([], 0)) _))) i = _ * rv (pls (smK n F M k) (tms (rowF (F.getD k ([], 0))) (ratQ (M.getD k (0, 0))))) i
  rw [rowF_pl (gZ_len M _ k) (by simp [tmZ]; simpa using hl), rowF_tm, rv_pls _ _ (by rw [tms_len, rowF_len, rowF_len, hl, gZ_len]), rv_pls _ _ (by rw [tms_len, rowF_len, hl, hsl]), rv_tms, rv_tms, ih]
  generalize kM M M.length = K at *
  generalize ratQ (M.getD k (0, 0)) = q at *
  have e : (((q.num * K.tdiv (q.den : Int) : Int)) : Rat) = (K : Rat) * q := by
   obtain ⟨u, hu⟩ := hd
   have hdp := q.den_pos
   rw [Int.tdiv_eq_ediv_of_dvd ⟨u, hu⟩, hu, Int.mul_ediv_cancel_left _ (by omega), Rat.intCast_mul, Rat.intCast_mul, ← mul_den q]
   grind
  rw [e]; grind
/-- What the reference's Sum hands back. -/
def suG (n : Nat) (F : List Fm) (M : List (Int × Int)) : Fm := let K := kM M M.length; let g := gZ n F M K F.length; (g.1.map (·.tdiv (gcZ n g K)), g.2.tdiv (gcZ n g K))
def suK (n : Nat) (F : List Fm) (M : List (Int × Int)) : Int := let K := kM M M.length; let g := gZ n F M K F.length; K.tdiv (gcZ n g K)
theorem gcZ_spec {n : Nat} {g : Fm} {K : Int} (hl : g.1.length = n) (hK : 0 < K) : 0 < gcZ n g K ∧ gcZ n g K ∣ K ∧ gcZ n g K ∣ g.2 ∧ (∀ j, j < n → gcZ n g K ∣ g.1.getD j 0) ∧ ∀ d : Int, d ∣ K → d ∣ g.2 → (∀ j, j < n → d ∣ g.1.getD j 0) → d ∣ gcZ n g K := by
 unfold gcZ
 obtain ⟨d1, d2⟩ := dK_dvd g.1 g.2 n
 have h1 : (Int.gcd (dK g.1 g.2 n) K : Int) ∣ dK g.1 g.2 n := Int.gcd_dvd_left ..
 refine ⟨?_, Int.gcd_dvd_right .., Int.dvd_trans h1 d1, fun j hj => Int.dvd_trans h1 (d2 j hj), fun d hd h2 h3 => Int.dvd_coe_gcd (dK_great g.1 g.2 d n h2 h3) hd⟩
 have := Int.gcd_pos_of_ne_zero_right (dK g.1 g.2 n) (show K ≠ 0 by omega)
 omega
theorem tdiv_cast {a d : Int} (h : d ∣ a) (hd : 0 < d) : ((a.tdiv d : Int) : Rat) = (a : Rat) / (d : Rat) := by
 obtain ⟨u, rfl⟩ := h
 rw [Int.mul_comm, Int.mul_tdiv_cancel u (by omega), Rat.intCast_mul]
 have : (d : Rat) ≠ 0 := fun e => by have := Rat.intCast_eq_zero_iff.1 e; omega
 grind
/-- Both sides find the same form and divisor. -/
theorem comb_law {n : Nat} {F : List Fm} (M : List (Int × Int)) (hF : ∀ j, j < F.length → (F.getD j ([], 0)).1.length = n) (hM : F.length = M.length) :
  scl (cbQ n F M) = (suG n F M).1 ++ [(suG n F M).2] ++ [suK n F M] := by
 have hK := (kM_pos M M.length).1
 have hgs := fun i => gZ_sm M hF hM F.length (Nat.le_refl _) i
 have hgl : (gZ n F M (kM M M.length) F.length).1.length = n := gZ_len M _ _
 have hsl := smK_len M hF F.length (Nat.le_refl _)
 unfold suG suK cbQ
 simp only
 generalize smK n F M F.length = s at *
 generalize gZ n F M (kM M M.length) F.length = g at *
 generalize kM M M.length = K at *
 obtain ⟨d0, dK', d2, d1, dg⟩ := gcZ_spec hgl hK
 generalize gcZ n g K = d at *
 -- the entries
 have hql : (s.1 ++ [s.2] ++ [1]).length = n + 2 := by simp [hsl]
 have hol : (g.1.map (·.tdiv d) ++ [g.2.tdiv d] ++ [K.tdiv d]).length = n + 2 := by simp [hgl]
 have hdR : (0 : Rat) < (d : Rat) := Rat.intCast_pos.2 d0
 have hKR : (0 : Rat) < (K : Rat) := Rat.intCast_pos.2 hK
 have qat : ∀ j, j < n + 1 → (s.1 ++ [s.2] ++ [1]).getD j 0 = rv s j := fun j hj => by
  unfold rv
  rw [List.getD_eq_getElem?_getD, List.getElem?_append_left (by simp [hsl]; omega), ← List.getD_eq_getElem?_getD]
 have qla : (s.1 ++ [s.2] ++ [(1 : Rat)]).getD (n + 1) 0 = 1 := getD_app_one _ 1 0 _ (by simp [hsl])
 have oat : ∀ j, j < n + 2 → (((g.1.map (·.tdiv d) ++ [g.2.tdiv d] ++ [K.tdiv d]).getD j 0 : Int) : Rat) = (K : Rat) / (d : Rat) * (s.1 ++ [s.2] ++ [1]).getD j 0 := fun j hj => by
  rcases Nat.lt_or_ge j n with h | h
  ·rw [List.append_assoc, List.getD_eq_getElem?_getD, List.getElem?_append_left (by simp [hgl]; exact h), ← List.getD_eq_getElem?_getD, getD_map (·.tdiv d) g.1 j 0 0 (by omega), tdiv_cast (d1 j h) d0, qat j (by omega)]
   have e := hgs j
   rw [rowF_at g j (by omega)] at e
   rw [e]; grind
  ·rcases Nat.lt_or_ge j (n + 1) with h' | h'
   ·have : j = n := by omega
    subst this
    rw [List.getD_eq_getElem?_getD, List.getElem?_append_left (by simp [hgl]), ← List.getD_eq_getElem?_getD, getD_app_one _ _ _ _ (by simp [hgl]), tdiv_cast d2 d0, qat j (by omega)]
    have e := hgs j
    have e2 := rv_add (rowF g)
    rw [rowF_len, hgl] at e2
    rw [e2] at e
    have e3 : ((g.2 : Int) : Rat) = (K : Rat) * rv s j := e
    rw [e3]; grind
   ·have : j = n + 1 := by omega
    subst this
    rw [qla, getD_app_one _ _ _ _ (by simp [hgl]), tdiv_cast dK' d0]; grind
 obtain ⟨c, hc, h1, h2⟩ := scl_spec (s.1 ++ [s.2] ++ [1])
 have hsc := scl_len (s.1 ++ [s.2] ++ [1])
 have h3 := h2 ⟨n + 1, by omega, by rw [qla]; decide⟩
 rw [hql] at h1 h3 hsc
 generalize scl (s.1 ++ [s.2] ++ [1]) = L1 at *
 generalize hL2 : g.1.map (·.tdiv d) ++ [g.2.tdiv d] ++ [K.tdiv d] = L2 at *
 generalize s.1 ++ [s.2] ++ [1] = Q at *
 have big : ∀ (L : List Int) (k : Nat), L.length = n + 2 → n + 2 ≤ k → L.getD k 0 = 0 := fun L k hl hk => by rw [List.getD_eq_getElem?_getD, List.getElem?_eq_none (by omega)]; rfl
 have p1 : Pm fun k => ((L1.getD k 0 : Int) : Rat) := ⟨fun k => L1.getD k 0, fun k => rfl, fun e he => h3 e fun j hj => he j⟩
 have p2 : Pm fun k => ((L2.getD k 0 : Int) : Rat) := by
  refine ⟨fun k => L2.getD k 0, fun k => rfl, fun e he => ?_⟩
  have he : ∀ k, e ∣ L2.getD k 0 := he
  have key : ∀ a : Int, d ∣ a → e ∣ a.tdiv d → e * d ∣ a := fun a ⟨u, hu⟩ ⟨v, hv⟩ => by
   rw [hu, Int.mul_comm, Int.mul_tdiv_cancel u (by omega)] at hv
   exact ⟨v, by rw [hu, hv, ← Int.mul_assoc, Int.mul_comm d e]⟩
  have hh : e * d ∣ d := by
   refine dg _ (key K dK' ?_) (key g.2 d2 ?_) fun j hj => key _ (d1 j hj) ?_
   ·have := he (n + 1)
    rwa [← hL2, getD_app_one _ _ _ _ (by simp [hgl])] at this
   ·have := he n
    rwa [← hL2, List.getD_eq_getElem?_getD, List.getElem?_append_left (by simp [hgl]), ← List.getD_eq_getElem?_getD, getD_app_one _ _ _ _ (by simp [hgl])] at this
   ·have := he j
    rwa [← hL2, List.append_assoc, List.getD_eq_getElem?_getD, List.getElem?_append_left (by simp [hgl]; exact hj), ← List.getD_eq_getElem?_getD, getD_map (·.tdiv d) g.1 j 0 0 (by omega)] at this
  obtain ⟨u, hu⟩ := hh
  refine ⟨u, ?_⟩
  have : d * 1 = d * (e * u) := by rw [Int.mul_one]; calc d = e * d * u := hu
   _ = d * (e * u) := by rw [Int.mul_comm e d, Int.mul_assoc]
  exact Int.eq_of_mul_eq_mul_left (by omega) this
 have a1 : ((L1.getD (n + 1) 0 : Int) : Rat) = c := by rw [h1 (n + 1) (by omega), qla]; grind
 have a2 : ((L2.getD (n + 1) 0 : Int) : Rat) = (K : Rat) / (d : Rat) := by rw [oat (n + 1) (by omega), qla]; grind
 have hKd : (0 : Rat) < (K : Rat) / (d : Rat) := by
  rw [Rat.div_def]; exact Rat.mul_pos hKR (Rat.inv_pos.2 hdR)
 have hfin := p1.eq p2 (s := n + 1) (by show (0 : Rat) < ((L1.getD (n + 1) 0 : Int) : Rat); rw [a1]; exact hc) (by show (0 : Rat) < ((L2.getD (n + 1) 0 : Int) : Rat); rw [a2]; exact hKd) (fun k => by
  show ((L2.getD k 0 : Int) : Rat) * ((L1.getD (n + 1) 0 : Int) : Rat) = ((L2.getD (n + 1) 0 : Int) : Rat) * ((L1.getD k 0 : Int) : Rat)
  rcases Nat.lt_or_ge k (n + 2) with hk | hk
  ·rw [a1, a2, oat k hk, h1 k (by omega)]; grind
  ·rw [big L1 k hsc hk, big L2 k hol hk]; rw [show (((0 : Int)) : Rat) = 0 from rfl]; grind)
 refine List.ext_getElem (by omega) fun k x1 x2 => ?_
 have e := congrFun hfin k
 have e' : L1.getD k 0 = L2.getD k 0 := Rat.intCast_inj.1 e
 rwa [List.getD_eq_getElem?_getD, List.getD_eq_getElem?_getD, List.getElem?_eq_getElem x1, List.getElem?_eq_getElem x2] at e'
end Go.Proofs.YtloplmmnmehkmaaGreat

namespace Go.Proofs.YtloplmmnmehkmaaGreat
open Go.RowKit

def ratP (x : Int × Int) : Rat := Rat.divInt x.1 x.2
theorem ratP_sz {x : Int × Int} (h : OkN x.1 x.2) : SzR 61 (ratP x) := by
 obtain ⟨h1, h2, h3, h4, _⟩ := h
 exact qsz_divInt (by omega) (by unfold Sz; exact Nat.lt_of_le_of_lt (show x.1.natAbs ≤ 1152921504606846976 by omega) (by decide)) (by unfold Sz; exact Nat.lt_of_le_of_lt (show x.2.natAbs ≤ 1152921504606846976 by omega) (by decide))
theorem results_cell_tmp2_row {P : Program} {fn : Func} {p1 p2 p3 : Tmp} {ty1 : TypeId} (h : fn.results = #[.cell p1 ty1, .tmp p2, .tmp p3]) (tmps : Array Value) (w : World) (g1 : Nat) (t1 : TypeId) (cs1 : Array Value) (fr1 : Nat × Nat) (d1 : TypeDesc) (v v' : Value)
  (hp1 : tmps.getD p1 undef = .pointer (some ⟨g1, 0, none⟩)) (hg1 : w.heap[g1]? = some (.cells cs1 t1 fr1))
  (hu1 : P.underlying ty1 = some d1) (hd1 : (match d1 with | .struct _ | .array _ _ => true | _ => false) = true) (hi1 : (P.info? ty1).map (·.size) = some cs1.size)
  (hp2 : tmps.getD p2 undef = v) (hp3 : tmps.getD p3 undef = v') :
  (results fn tmps).run P w = .ok (.tuple #[.agg cs1, v, v']) w := by
 have hp1' : tmps[p1]?.getD undef = .pointer (some ⟨g1, 0, none⟩) := by simpa using hp1
 have hp2' : tmps[p2]?.getD undef = v := by simpa using hp2
 have hp3' : tmps[p3]?.getD undef = v' := by simpa using hp3
 simp [results, h, hp1', hp2', hp3', asAddr, run_loadVar_row w g1 t1 ty1 cs1 fr1 d1 hg1 hu1 hd1 hi1]
set_option maxHeartbeats 40000000
set_option maxRecDepth 100000
theorem allnum_calls (A : Option Addr) (n c : Nat) (l : List (Int × Int)) (w : World) (h : RdN w A n l) (hi : I64s l) :
  Calls Tryz.prog 62 #[.slice A n c, .func (.func 63) #[] #[]] w fun e w' => e = .returned (.bool (decide (OkNs l))) ∧ Below w.heap.size w w' := by
 have L := Lib.hid h.1
 have hn := h.2.1
 generalize hB : decide (OkNs l) = B
 have HB := Lib.hid hB
 clear hB
 go_enter Tryz.func62, Tryz.ntmps62
 go_wp2_with fail
 go_loopw [9] (fun i wr => ∃ k : Nat, k ≤ n ∧ i = .int .i64 k ∧ (∀ j, j < k → OkN (l.getD j (0, 0)).1 (l.getD j (0, 0)).2) ∧ Below w.heap.size w wr) (fun i _ => n - (intOf i).toNat)
 case atStart => exact ⟨0, Nat.zero_le _, rfl, fun j hj => absurd hj (by omega), Below.refl _ _⟩
 case round =>
  obtain ⟨k, hk, rfl, hall, hBw⟩ := hrel
  have HALL := Lib.hid hall
  clear hall
  by_cases hlt : k < n
  ·obtain ⟨g, off, rfl, hg, hc⟩ := (h.below hBw).2.2 (by omega)
   obtain ⟨c1, c2⟩ := hc k hlt
   have h64 := hi _ (mem_getD (d := (0, 0)) (by rw [L.out]; exact hlt) : l.getD k (0, 0) ∈ l)
   clear hc h
   generalize hx1 : l.getD k (0, 0) = x1 at *
   have HX1 := Lib.hid hx1
   clear hx1
   go_wp2_with fail
   refine (valid_calls x1.1 x1.2 _ h64.1.1 h64.1.2 h64.2.1 h64.2.2).mono ?_
   rintro e w1 ⟨he, hB1⟩
   replace hBw := bl_then (bl_alloc hBw (.cells #[.int .i64 x1.1, .int .i64 x1.2] 56)) hB1
   clear hB1 c1 c2 h64
   by_cases hok : OkN x1.1 x1.2
   ·rw [decide_eq_true hok] at he
    subst he
    replace hok := Lib.hid hok
    go_wp2
    go_roundw
    case rel =>
     refine ⟨k + 1, hlt, by go_num, ?_, hBw⟩
     intro j hj
     rcases Nat.lt_or_ge j k with h1 | h1
     ·exact HALL.out j h1
     ·have : j = k := by omega
      subst this
      rw [HX1.out]
      exact hok.out
    case measure => simp [intOf]; omega
   ·rw [decide_eq_false hok] at he
    subst he
    have hf : B = false := by
     rw [← HB.out, decide_eq_false]
     intro hh
     have := hh _ (mem_getD (d := (0, 0)) (by rw [L.out]; exact hlt) : l.getD k (0, 0) ∈ l)
     rw [HX1.out] at this
     exact hok this
    subst hf
    go_wp2
    go_ret
    exact ⟨rfl, hBw⟩
  ·have hf : B = true := by
    rw [← HB.out, decide_eq_true]
    exact all_of_getD (p := fun x : Int × Int => OkN x.1 x.2) (d := (0, 0)) fun j hj => HALL.out j (by rw [L.out] at hj; omega)
   subst hf
   go_wp2
   go_ret
   exact ⟨rfl, hBw⟩
end Go.Proofs.YtloplmmnmehkmaaGreat

namespace Go.Proofs.YtloplmmnmehkmaaGreat
open Go.RowKit

/-- What lin.Combine hands back. -/
def cbF (n : Int) (F : List Fm) (M : List (Int × Int)) : Fm × Int × Int :=
 if OkFs n F ∧ OkNs M then
  if F.length = M.length then
   if ∀ z ∈ scl (cbQ n.toNat F M), mid z then (((scl (cbQ n.toNat F M)).take n.toNat, (scl (cbQ n.toNat F M)).getD n.toNat 0), (scl (cbQ n.toNat F M)).getD (n.toNat + 1) 0, 0)
   else (([], 0), 0, 3)
  else (([], 0), 0, 2)
 else (([], 0), 0, 1)
theorem Kind.Own.base2 {α β : Type} {K : Kind α β} {w : World} {b b' n : Nat} {v : Value} {R : List β} (h : K.Own w b v n R) (hb : b' ≤ b) : K.Own w b' v n R := by
 obtain ⟨l, h1, h2⟩ := h
 refine ⟨l, ⟨h1.1, ?_⟩, h2⟩
 rcases h1.2 with h0 | ⟨g, cap, cur, hv, hbg, r⟩
 ·exact .inl h0
 ·exact .inr ⟨g, cap, cur, hv, by omega, r⟩
theorem cell_farN (w : World) {g k : Nat} (hk : k ≠ g) (x y : Value) (i : Nat) : ((w.setCell ⟨g, 0, none⟩ x).setCell ⟨g, 1, none⟩ y).cell? ⟨k, i, none⟩ = w.cell? ⟨k, i, none⟩ := by
 have e1 : (w.setCell ⟨g, 0, none⟩ x).heap[k]? = w.heap[k]? := heap_setCell_other _ _ _ _ hk
 have e2 : ((w.setCell ⟨g, 0, none⟩ x).setCell ⟨g, 1, none⟩ y).heap[k]? = (w.setCell ⟨g, 0, none⟩ x).heap[k]? := heap_setCell_other _ _ _ _ hk
 have e := e2.trans e1
 generalize (w.setCell ⟨g, 0, none⟩ x).setCell ⟨g, 1, none⟩ y = W at *
 simp [World.cell?, e]
theorem kp_under {W W' : World} {g : Nat} {cs : Array Value} {T t : TypeId} (hs : W.heap.size = g + 1) (hg : W.heap[g]? = some (.cells cs T (0, 0))) (hb : Below g W W') (ht : T ≠ t) : Kp t W W' := ⟨fun b cs' fr h => by
 have hlt := blk_lt h
 have : b ≠ g := fun e => by
  subst e
  rw [hg] at h
  cases h
  exact ht rfl
 exact (hb.block b (by omega)).trans h⟩
theorem zip_at (l1 l2 : List Rat) (q : Rat) (j : Nat) (a1 : j < l1.length) (a2 : j < l2.length) : (List.zipWith (· + ·) l1 (l2.map (· * q))).getD j 0 = l1.getD j 0 + l2.getD j 0 * q := by
 have a3 : j < (List.zipWith (· + ·) l1 (l2.map (· * q))).length := by simp; omega
 rw [List.getD_eq_getElem?_getD, List.getElem?_eq_getElem a3, List.getD_eq_getElem?_getD, List.getElem?_eq_getElem a1, List.getD_eq_getElem?_getD, List.getElem?_eq_getElem a2]
 simp
theorem smK_sz {n : Nat} {F : List Fm} {M : List (Int × Int)} (hF : ∀ j, j < F.length → (F.getD j ([], 0)).1.length = n ∧ SzW 61 (rowF (F.getD j ([], 0)))) (hM : ∀ j, SzR 61 (ratQ (M.getD j (0, 0)))) (k : Nat) (hk : k ≤ F.length) : SzW (1 + 123 * k) (smK n F M k) := by
 induction k with
 | zero =>
  have z : SzR 1 0 := ⟨by unfold Sz; decide, by unfold Sz; decide⟩
  refine ⟨fun j => ?_, z⟩
  show SzR 1 ((List.replicate n (0 : Rat)).getD j 0)
  rw [List.getD_eq_getElem?_getD, List.getElem?_replicate]
  split <;> exact z
 | succ k ih =>
  have ih := ih (by omega)
  have hl := smK_len M (fun j hj => (hF j hj).1) k (by omega)
  obtain ⟨h1, h2⟩ := hF k (by omega)
  have hq := hM k
  refine ⟨fun j => ?_, ?_⟩
  ·show SzR _ ((List.zipWith (· + ·) (smK n F M k).1 ((rowF (F.getD k ([], 0))).1.map (· * ratQ (M.getD k (0, 0))))).getD j 0)
   rcases Nat.lt_or_ge j n with hj | hj
   ·have e := zip_at (smK n F M k).1 (rowF (F.getD k ([], 0))).1 (ratQ (M.getD k (0, 0))) j (by omega) (by rw [rowF_len]; omega)
    rw [e]
    exact (qsz_add (ih.1 j) (qsz_mul (h2.1 j) hq)).mono (by omega)
   ·rw [List.getD_eq_getElem?_getD, List.getElem?_eq_none (by simp [hl, rowF_len, h1]; omega)]
    exact SzR.mono (k := 1) ⟨by unfold Sz; decide, by unfold Sz; decide⟩ (by omega)
  ·show SzR _ ((smK n F M k).2 + (rowF (F.getD k ([], 0))).2 * ratQ (M.getD k (0, 0)))
   exact (qsz_add ih.2 (qsz_mul h2.2 hq)).mono (by omega)
set_option maxHeartbeats 40000000
set_option maxRecDepth 100000
theorem lcomb_calls (n : Int) (A : Option Addr) (m c : Nat) (F : List Fm) (A' : Option Addr) (m' c' : Nat) (M : List (Int × Int)) (w : World) (h : RdF w A m F) (hi : ∀ f ∈ F, I64F f) (hl : ∀ f ∈ F, f.1.length ≤ 1000000) (hm : m ≤ 500) (h' : RdN w A' m' M) (hi' : I64s M) :
  Calls Tryz.prog 23 #[.int .i64 n, .slice A m c, .slice A' m' c'] w fun e w' => (∃ v, e = .returned (.tuple #[v, .int .i64 (cbF n F M).2.1, .int .i64 (cbF n F M).2.2]) ∧ FmR v w' (cbF n F M).1) ∧ Below w.heap.size w w' := by
 have L := Lib.hid h.1
 have L' := Lib.hid h'.1
 have HI := Lib.hid hi
 have HI' := Lib.hid hi'
 have HL := Lib.hid hl
 have hm'63 := h'.2.1
 have NO : ¬ (OkFs n F ∧ OkNs M) → cbF n F M = (([], 0), 0, 1) := fun hh => if_neg hh
 have DIM : OkFs n F → OkNs M → F.length ≠ M.length → cbF n F M = (([], 0), 0, 2) := fun h1 h2 hh => by unfold cbF; rw [if_pos ⟨h1, h2⟩, if_neg hh]
 have FULL : OkFs n F → OkNs M → F.length = M.length → ¬ (∀ z ∈ scl (cbQ n.toNat F M), mid z) → cbF n F M = (([], 0), 0, 3) := fun h1 h2 hh h3 => by unfold cbF; rw [if_pos ⟨h1, h2⟩, if_pos hh, if_neg h3]
 have YES : OkFs n F → OkNs M → F.length = M.length → (∀ z ∈ scl (cbQ n.toNat F M), mid z) → cbF n F M = (((scl (cbQ n.toNat F M)).take n.toNat, (scl (cbQ n.toNat F M)).getD n.toNat 0), (scl (cbQ n.toNat F M)).getD (n.toNat + 1) 0, 0) := fun h1 h2 hh h3 => by unfold cbF; rw [if_pos ⟨h1, h2⟩, if_pos hh, if_pos h3]
 generalize cbF n F M = E9 at *
 clear hi hl hi'
 go_enter Tryz.func23, Tryz.ntmps23
 have B0 := bl_alloc (Below.refl w.heap.size w) (.cells #[.slice none 0 0, .int .i64 0] 44)
 have az : (w.alloc (.cells #[.slice none 0 0, .int .i64 0] 44)).heap[w.heap.size]? = some (.cells #[.slice none 0 0, .int .i64 0] 44 (0, 0)) := blk_at _ rfl
 go_wp2_with fail
 refine (forms_calls n A m c F _ (h.below B0)).mono ?_
 rintro e w1 ⟨he, hB1⟩
 replace az := blk_below az hB1
 replace B0 := bl_then B0 hB1
 clear hB1
 by_cases hok : OkFs n F
 ·rw [decide_eq_true hok] at he
  subst he
  go_wp2_with fail
  refine (allnum_calls A' m' c' M _ (h'.below B0) HI'.out).mono ?_
  rintro e w2 ⟨he, hB2⟩
  replace az := blk_below az hB2
  replace B0 := bl_then B0 hB2
  clear hB2
  by_cases hok' : OkNs M
  ·rw [decide_eq_true hok'] at he
   subst he
   obtain ⟨n, rfl⟩ : ∃ nn : Nat, n = nn := ⟨n.toNat, by have := hok.1.1; omega⟩
   rw [Int.toNat_natCast] at FULL YES
   by_cases hmm : m = m'
   ·subst hmm
    have hFM : F.length = M.length := by rw [L.out, L'.out]
    have HYES := Lib.hid (YES hok hok' hFM)
    have HFULL := Lib.hid (FULL hok hok' hFM)
    have HOK := Lib.hid hok
    have HOK' := Lib.hid hok'
    have hn8 : n ≤ 8 := by have := hok.1.2; omega
    have hm120 : m ≤ 120 := by have := hok.2.1; rw [L.out] at this; exact this
    have HFL : Hid (∀ j, j < F.length → (F.getD j ([], 0)).1.length = n ∧ SzW 61 (rowF (F.getD j ([], 0)))) := Lib.hid fun j hj => by
     have hf := hok.2.2 _ (mem_getD (d := (([], 0) : Fm)) hj)
     exact ⟨by have := hf.2.1; omega, rowF_sz hf⟩
    have HMQ : Hid (∀ j, SzR 61 (ratQ (M.getD j (0, 0)))) := Lib.hid fun j => by
     rcases Nat.lt_or_ge j M.length with hj | hj
     ·exact ratP_sz (hok' _ (mem_getD (d := ((0, 0) : Int × Int)) hj))
     ·rw [List.getD_eq_getElem?_getD, List.getElem?_eq_none hj]
      exact ⟨by show Sz 61 (Rat.divInt 0 0).num; unfold Sz; decide, by show Sz 61 ((Rat.divInt 0 0).den : Int); unfold Sz; decide⟩
    have HSZ : Hid (∀ k, k ≤ m → (smK n F M k).1.length = n ∧ SzW 20000 (smK n F M k)) := Lib.hid fun k hk => ⟨smK_len M (fun j hj => (HFL.out j hj).1) k (by rw [L.out]; exact hk), by
     have := smK_sz HFL.out HMQ.out k (by rw [L.out]; exact hk)
     exact ⟨fun j => (this.1 j).mono (by omega), this.2.mono (by omega)⟩⟩
    clear NO DIM YES FULL hok hok' hFM
    obtain ⟨cs, hcs, qm⟩ := made_q n (by omega)
    have OQ := OwnQ.made_at (W := w2) (base := w.heap.size) (g := w2.heap.size) n rfl B0.size (by omega) cs hcs
    have B1 := bl_alloc (bl_alloc B0 (.cells cs 88)) (.cells #[.slice (some ⟨w2.heap.size, 0, none⟩) n n, .int .i64 0, .slice none 0 0, .int .i64 0, .slice none 0 0, .bool false] 90)
    have az1 := blk_alloc (blk_alloc az (.cells cs 88)) (.cells #[.slice (some ⟨w2.heap.size, 0, none⟩) n n, .int .i64 0, .slice none 0 0, .int .i64 0, .slice none 0 0, .bool false] 90)
    have RB : RwB ((w2.alloc (.cells cs 88)).alloc (.cells #[.slice (some ⟨w2.heap.size, 0, none⟩) n n, .int .i64 0, .slice none 0 0, .int .i64 0, .slice none 0 0, .bool false] 90)) (w2.heap.size + 1) n (smK n F M 0) := ⟨_, _, _, _, blk_at _ (by simp), (OQ.rd (by omega)).below (bl_alloc (Below.refl _ _) _), RC.zero_is _⟩
    have lzw := blk_lt az
    go_wp2_with fail
    clear qm OQ
    have hg9w : w.heap.size ≠ w2.heap.size + 1 := by omega
    have hgb : w.heap.size ≤ w2.heap.size + 1 := by omega
    generalize w2.heap.size + 1 = g9 at *
    go_loopw [40] (fun i wr => ∃ kk : Nat, kk ≤ m ∧ i = .int .i64 kk ∧ RwB wr g9 n (smK n F M kk) ∧ wr.heap[w.heap.size]? = some (.cells #[.slice none 0 0, .int .i64 0] 44 (0, 0)) ∧ Below w.heap.size w wr) (fun i _ => m - (intOf i).toNat)
    case atStart => exact ⟨0, Nat.zero_le _, rfl, RB, az1, B1⟩
    case round =>
     clear RB az1 B1 az B0
     obtain ⟨kk, hkk, rfl, RB, az, B0⟩ := hrel
     by_cases hlt : kk < m
     ·obtain ⟨g, off, rfl, hg, hc⟩ := (h.below B0).2.2 (by omega)
      obtain ⟨A1, n1, c1, p1, p2, c3⟩ := hc kk hlt
      obtain ⟨gm, om, rfl, lgm, hcm⟩ := (h'.below B0).2.2 (by omega)
      obtain ⟨pm1, pm2⟩ := hcm kk hlt
      have hmemM : M.getD kk (0, 0) ∈ M := mem_getD (by rw [L'.out]; exact hlt)
      have hmemF : F.getD kk ([], 0) ∈ F := mem_getD (by rw [L.out]; exact hlt)
      have mb := HI'.out _ hmemM
      have h64 := HI.out _ hmemF
      have HLN := Lib.hid (HFL.out kk (by rw [L.out]; exact hlt)).1
      have HRS := Lib.hid (HFL.out kk (by rw [L.out]; exact hlt)).2
      have HQS := Lib.hid (HMQ.out kk)
      have hml : (M.getD kk (0, 0)).2 ≠ 0 := by have := (HOK'.out _ hmemM).1; omega
      obtain ⟨hsl, hsm⟩ := HSZ.out kk (by omega)
      have HSL := Lib.hid hsl
      have HSM := Lib.hid hsm
      have HSX : Hid (pls (smK n F M kk) (tms (rowF (F.getD kk ([], 0))) (ratQ (M.getD kk (0, 0)))) = smK n F M (kk + 1)) := Lib.hid rfl
      have HTS : Hid (SzW 20000 (tms (rowF (F.getD kk ([], 0))) (ratQ (M.getD kk (0, 0))))) := Lib.hid ⟨fun j => by
       rcases Nat.lt_or_ge j (rowF (F.getD kk ([], 0))).1.length with hj | hj
       ·have e : (tms (rowF (F.getD kk ([], 0))) (ratQ (M.getD kk (0, 0)))).1.getD j 0 = (rowF (F.getD kk ([], 0))).1.getD j 0 * ratQ (M.getD kk (0, 0)) := getD_map (· * ratQ (M.getD kk (0, 0))) _ j 0 0 hj
        rw [e]; exact (qsz_mul (HRS.out.1 j) HQS.out).mono (by omega)
       ·rw [List.getD_eq_getElem?_getD, List.getElem?_eq_none (by rw [tms_len]; exact hj)]
        exact SzR.mono (k := 1) ⟨by unfold Sz; decide, by unfold Sz; decide⟩ (by omega), (qsz_mul HRS.out.2 HQS.out).mono (by omega)⟩
      have HPL : Hid ((tms (rowF (F.getD kk ([], 0))) (ratQ (M.getD kk (0, 0)))).1.length = (smK n F M kk).1.length) := Lib.hid (by rw [tms_len, rowF_len, HLN.out, hsl])
      clear hc hcm hmemM hmemF hsl hsm
      generalize F.getD kk ([], 0) = f1 at *
      generalize hMk : M.getD kk (0, 0) = mk at *
      clear hMk
      obtain ⟨mt, ml⟩ := mk
      dsimp only at pm1 pm2 mb hml
      generalize smK n F M kk = sm at *

      have hk0 : (0 : Int) ≤ (kk : Int) := by omega
      have hkn : (kk : Int) < (m : Int) := by omega
      have hn1 : n = n1 := HLN.out.symm.trans c3.1
      subst hn1
      have c4 := c3.below (bl_alloc (Below.refl _ _) (.cells #[.slice A1 n c1, .int .i64 f1.2] 44))
      have a11 : (wr.alloc (.cells #[.slice A1 n c1, .int .i64 f1.2] 44)).heap[wr.heap.size]? = some (.cells #[.slice A1 n c1, .int .i64 f1.2] 44 (0, 0)) := blk_at _ rfl
      have BX : Below wr.heap.size wr (wr.alloc (.cells #[.slice A1 n c1, .int .i64 f1.2] 44)) := bl_alloc (Below.refl _ _) _
      replace RB := RB.below BX
      replace az := blk_below az BX
      replace B0 := bl_then B0 BX
      have pm1 := ((cells_below BX).1 _ _ lgm).trans pm1
      have pm2 := ((cells_below BX).1 _ _ lgm).trans pm2
      replace lgm := Nat.lt_of_lt_of_le lgm BX.size
      go_upto_region 9 with (fail)
      clear c3 BX p1 p2 hg
      generalize wr.heap.size = g11 at *
      generalize wr.alloc (.cells #[.slice A1 n c1, .int .i64 f1.2] 44) = W9 at *
      obtain ⟨A9, c9, x9, b9, a9, t9⟩ := RB
      have lg9 := blk_lt a9
      have cmB : ∀ W, Below W9.heap.size W9 W → W.cell? ⟨gm, om + kk * 2, none⟩ = some (Value.int .i64 mt) ∧ W.cell? ⟨gm, om + kk * 2 + 1, none⟩ = some (Value.int .i64 ml) := fun W hB => ⟨((cells_below hB).1 _ _ lgm).trans pm1, ((cells_below hB).1 _ _ lgm).trans pm2⟩
      have H0 : Below W9.heap.size W9 W9.drew := bl_drew (Below.refl _ _)
      have a9_0 := blk_drew a9
      have a11_0 := blk_drew a11
      have cm_0 := cmB _ H0
      have hS0 : (W9.drew.cell? ⟨g9, 0, none⟩ = some (Value.slice A9 n c9) ∧ W9.drew.cell? ⟨g9, 1, none⟩ = some (Value.int .i64 x9.v) ∧ W9.drew.cell? ⟨g9, 2, none⟩ = some (Value.slice x9.A x9.n x9.c) ∧ W9.drew.cell? ⟨g9, 3, none⟩ = some (Value.int .i64 x9.v') ∧ W9.drew.cell? ⟨g9, 4, none⟩ = some (Value.slice x9.A' x9.n' x9.c') ∧ W9.drew.cell? ⟨g9, 5, none⟩ = some (Value.bool b9)) ∧ (W9.drew.cell? ⟨g11, 0, none⟩ = some (Value.slice A1 n c1) ∧ W9.drew.cell? ⟨g11, 1, none⟩ = some (Value.int .i64 f1.2) ∧ W9.drew.cell? ⟨gm, om + kk * 2, none⟩ = some (Value.int .i64 mt) ∧ W9.drew.cell? ⟨gm, om + kk * 2 + 1, none⟩ = some (Value.int .i64 ml)) := And.intro (qx6 a9_0) (And.intro (qx2 a11_0).1 (And.intro (qx2 a11_0).2 (cm_0)))
      refine wp_region_U (n := 10) (fun W => (W.cell? ⟨g9, 0, none⟩ = some (Value.slice A9 n c9) ∧ W.cell? ⟨g9, 1, none⟩ = some (Value.int .i64 x9.v) ∧ W.cell? ⟨g9, 2, none⟩ = some (Value.slice x9.A x9.n x9.c) ∧ W.cell? ⟨g9, 3, none⟩ = some (Value.int .i64 x9.v') ∧ W.cell? ⟨g9, 4, none⟩ = some (Value.slice x9.A' x9.n' x9.c') ∧ W.cell? ⟨g9, 5, none⟩ = some (Value.bool b9)) ∧ (W.cell? ⟨g11, 0, none⟩ = some (Value.slice A1 n c1) ∧ W.cell? ⟨g11, 1, none⟩ = some (Value.int .i64 f1.2) ∧ W.cell? ⟨gm, om + kk * 2, none⟩ = some (Value.int .i64 mt) ∧ W.cell? ⟨gm, om + kk * 2 + 1, none⟩ = some (Value.int .i64 ml))) (by kernel_rfl) ?_
      refine wpU_take (n := 10) (i := 0) (v := ?_) (by decide) (by kernel_rfl) rfl (by kernel_rfl) (by kernel_rfl) (by kernel_rfl) (fun _ _ _ h => h) (by kernel_rfl) (Or.inl ⟨by rfl, ?_⟩) hS0 ?_
      rotate_left
      ·intro w' hSw
       (try dsimp only at hSw)
       go_simp
       (try with_reducible rfl)
      try simp only [Act.put, List.setIfInBounds_toArray, List.set_cons_zero, List.set_cons_succ]
      refine wpU_take (n := 10) (i := 1) (v := ?_) (by decide) (by kernel_rfl) rfl (by kernel_rfl) (by kernel_rfl) (by kernel_rfl) (fun _ _ _ h => h) (by kernel_rfl) (Or.inl ⟨by rfl, ?_⟩) hS0 ?_
      rotate_left
      ·intro w' hSw
       (try dsimp only at hSw)
       go_simp
       (try with_reducible rfl)
      try simp only [Act.put, List.setIfInBounds_toArray, List.set_cons_zero, List.set_cons_succ]
      refine wpU_take (n := 10) (i := 3) (v := ?_) (by decide) (by kernel_rfl) rfl (by kernel_rfl) (by kernel_rfl) (by kernel_rfl) (fun _ _ _ h => h) (by kernel_rfl) (Or.inl ⟨by rfl, ?_⟩) hS0 ?_
      rotate_left
      ·intro w' hSw
       (try dsimp only at hSw)
       go_simp
       (try with_reducible rfl)
      try simp only [Act.put, List.setIfInBounds_toArray, List.set_cons_zero, List.set_cons_succ]
      refine wpU_take (n := 10) (i := 4) (v := ?_) (by decide) (by kernel_rfl) rfl (by kernel_rfl) (by kernel_rfl) (by kernel_rfl) (fun _ _ _ h => h) (by kernel_rfl) (Or.inl ⟨by rfl, ?_⟩) hS0 ?_
      rotate_left
      ·intro w' hSw
       (try dsimp only at hSw)
       go_simp
       (try with_reducible rfl)
      try simp only [Act.put, List.setIfInBounds_toArray, List.set_cons_zero, List.set_cons_succ]
      refine wpU_take (n := 10) (i := 5) (v := ?_) (by decide) (by kernel_rfl) rfl (by kernel_rfl) (by kernel_rfl) (by kernel_rfl) (fun _ _ _ h => h) (by kernel_rfl) (Or.inl ⟨by rfl, ?_⟩) hS0 ?_
      rotate_left
      ·intro w' hSw
       (try dsimp only at hSw)
       go_simp
       (try with_reducible rfl)
      try simp only [Act.put, List.setIfInBounds_toArray, List.set_cons_zero, List.set_cons_succ]
      refine wpU_take (n := 10) (i := 6) (v := ?_) (by decide) (by kernel_rfl) rfl (by kernel_rfl) (by kernel_rfl) (by kernel_rfl) (fun _ _ _ h => h) (by kernel_rfl) (Or.inl ⟨by rfl, ?_⟩) hS0 ?_
      rotate_left
      ·intro w' hSw
       (try dsimp only at hSw)
       go_simp
       (try with_reducible rfl)
      try simp only [Act.put, List.setIfInBounds_toArray, List.set_cons_zero, List.set_cons_succ]
      refine wpU_one (n := 10) (i := 2) (by kernel_rfl) rfl (fun K9 hK9 => ?_)
      go_simp
      refine (lrow_calls A1 n c1 f1 _ (c4.below (H0)) h64 (by omega)).mono ?_
      rintro e y1 ⟨⟨Ar, nr, cr, xr, rfl, tr⟩, hB1⟩
      have H1 : Below W9.heap.size W9 y1 := bl_then H0 hB1
      have a9_1 := blk_below a9 H1
      have a11_1 := blk_below a11 H1
      have cm_1 := cmB _ H1
      have hS1 : (y1.cell? ⟨g9, 0, none⟩ = some (Value.slice A9 n c9) ∧ y1.cell? ⟨g9, 1, none⟩ = some (Value.int .i64 x9.v) ∧ y1.cell? ⟨g9, 2, none⟩ = some (Value.slice x9.A x9.n x9.c) ∧ y1.cell? ⟨g9, 3, none⟩ = some (Value.int .i64 x9.v') ∧ y1.cell? ⟨g9, 4, none⟩ = some (Value.slice x9.A' x9.n' x9.c') ∧ y1.cell? ⟨g9, 5, none⟩ = some (Value.bool b9)) ∧ (y1.cell? ⟨g11, 0, none⟩ = some (Value.slice A1 n c1) ∧ y1.cell? ⟨g11, 1, none⟩ = some (Value.int .i64 f1.2) ∧ y1.cell? ⟨gm, om + kk * 2, none⟩ = some (Value.int .i64 mt) ∧ y1.cell? ⟨gm, om + kk * 2 + 1, none⟩ = some (Value.int .i64 ml)) := And.intro (qx6 a9_1) (And.intro (qx2 a11_1).1 (And.intro (qx2 a11_1).2 (cm_1)))
      refine hK9.out _ _ (fun _ _ => hS1) (fun _ => ?_)
      clear hK9 K9
      try simp only [Act.put, List.setIfInBounds_toArray, List.set_cons_zero, List.set_cons_succ]
      refine wpU_one (n := 10) (i := 7) (by kernel_rfl) rfl (fun K9 hK9 => ?_)
      go_simp
      refine (rat_calls mt ml _ mb.1.1 mb.1.2 mb.2.1 mb.2.2 hml).mono ?_
      rintro e y2 ⟨⟨v8, A8, n8, c8, v8', A8', n8', c8', rfl, tq⟩, hB2⟩
      have H2 : Below W9.heap.size W9 y2 := bl_then H1 hB2
      have a9_2 := blk_below a9 H2
      have a11_2 := blk_below a11 H2
      have cm_2 := cmB _ H2
      have hS2 : (y2.cell? ⟨g9, 0, none⟩ = some (Value.slice A9 n c9) ∧ y2.cell? ⟨g9, 1, none⟩ = some (Value.int .i64 x9.v) ∧ y2.cell? ⟨g9, 2, none⟩ = some (Value.slice x9.A x9.n x9.c) ∧ y2.cell? ⟨g9, 3, none⟩ = some (Value.int .i64 x9.v') ∧ y2.cell? ⟨g9, 4, none⟩ = some (Value.slice x9.A' x9.n' x9.c') ∧ y2.cell? ⟨g9, 5, none⟩ = some (Value.bool b9)) ∧ (y2.cell? ⟨g11, 0, none⟩ = some (Value.slice A1 n c1) ∧ y2.cell? ⟨g11, 1, none⟩ = some (Value.int .i64 f1.2) ∧ y2.cell? ⟨gm, om + kk * 2, none⟩ = some (Value.int .i64 mt) ∧ y2.cell? ⟨gm, om + kk * 2 + 1, none⟩ = some (Value.int .i64 ml)) := And.intro (qx6 a9_2) (And.intro (qx2 a11_2).1 (And.intro (qx2 a11_2).2 (cm_2)))
      refine hK9.out _ _ (fun _ _ => hS2) (fun _ => ?_)
      clear hK9 K9
      try simp only [Act.put, List.setIfInBounds_toArray, List.set_cons_zero, List.set_cons_succ]
      refine wpU_one (n := 10) (i := 8) (by kernel_rfl) rfl (fun K9 hK9 => ?_)
      go_simp
      refine (rowtimes_calls Ar nr cr xr false (rowF f1) ⟨v8, A8, n8, c8, v8', A8', n8', c8'⟩ _ _ (tr.below hB2) tq 61 HRS.out HQS.out (by omega)).mono ?_
      rintro e y3 ⟨⟨A3, n3, c3, x3, rfl, t3⟩, hB3⟩
      have H3 : Below W9.heap.size W9 y3 := bl_then H2 hB3
      have a9_3 := blk_below a9 H3
      have a11_3 := blk_below a11 H3
      have cm_3 := cmB _ H3
      have hS3 : (y3.cell? ⟨g9, 0, none⟩ = some (Value.slice A9 n c9) ∧ y3.cell? ⟨g9, 1, none⟩ = some (Value.int .i64 x9.v) ∧ y3.cell? ⟨g9, 2, none⟩ = some (Value.slice x9.A x9.n x9.c) ∧ y3.cell? ⟨g9, 3, none⟩ = some (Value.int .i64 x9.v') ∧ y3.cell? ⟨g9, 4, none⟩ = some (Value.slice x9.A' x9.n' x9.c') ∧ y3.cell? ⟨g9, 5, none⟩ = some (Value.bool b9)) ∧ (y3.cell? ⟨g11, 0, none⟩ = some (Value.slice A1 n c1) ∧ y3.cell? ⟨g11, 1, none⟩ = some (Value.int .i64 f1.2) ∧ y3.cell? ⟨gm, om + kk * 2, none⟩ = some (Value.int .i64 mt) ∧ y3.cell? ⟨gm, om + kk * 2 + 1, none⟩ = some (Value.int .i64 ml)) := And.intro (qx6 a9_3) (And.intro (qx2 a11_3).1 (And.intro (qx2 a11_3).2 (cm_3)))
      have hn3 : n = n3 := by rw [← t3.1.1, tms_len, rowF_len]; exact HLN.out.symm
      subst hn3
      refine hK9.out _ _ (fun _ _ => hS3) (fun _ => ?_)
      clear hK9 K9
      try simp only [Act.put, List.setIfInBounds_toArray, List.set_cons_zero, List.set_cons_succ]
      refine wpU_one (n := 10) (i := 9) (by kernel_rfl) rfl (fun K9 hK9 => ?_)
      go_simp
      refine (rowplus_calls A9 n c9 x9 b9 sm A3 c3 x3 false (tms (rowF f1) (ratQ (mt, ml))) _ (t9.below H3) t3 20000 HSM.out HTS.out (by omega)).mono ?_
      rintro e y4 ⟨⟨A5, n5, c5, x5, rfl, t5⟩, hB4⟩
      have H4 : Below W9.heap.size W9 y4 := bl_then H3 hB4
      have a9_4 := blk_below a9 H4
      have a11_4 := blk_below a11 H4
      have cm_4 := cmB _ H4
      have hS4 : (y4.cell? ⟨g9, 0, none⟩ = some (Value.slice A9 n c9) ∧ y4.cell? ⟨g9, 1, none⟩ = some (Value.int .i64 x9.v) ∧ y4.cell? ⟨g9, 2, none⟩ = some (Value.slice x9.A x9.n x9.c) ∧ y4.cell? ⟨g9, 3, none⟩ = some (Value.int .i64 x9.v') ∧ y4.cell? ⟨g9, 4, none⟩ = some (Value.slice x9.A' x9.n' x9.c') ∧ y4.cell? ⟨g9, 5, none⟩ = some (Value.bool b9)) ∧ (y4.cell? ⟨g11, 0, none⟩ = some (Value.slice A1 n c1) ∧ y4.cell? ⟨g11, 1, none⟩ = some (Value.int .i64 f1.2) ∧ y4.cell? ⟨gm, om + kk * 2, none⟩ = some (Value.int .i64 mt) ∧ y4.cell? ⟨gm, om + kk * 2 + 1, none⟩ = some (Value.int .i64 ml)) := And.intro (qx6 a9_4) (And.intro (qx2 a11_4).1 (And.intro (qx2 a11_4).2 (cm_4)))
      obtain ⟨⟨k1, k2, k3, k4, k5, k6⟩, k7⟩ := q6 a9_4
      refine hK9.out _ _ (fun _ _ => hS4) (fun _ => ?_)
      clear hK9 K9
      try simp only [Act.put, List.setIfInBounds_toArray, List.set_cons_zero, List.set_cons_succ]
      refine wpU_one (n := 10) (i := 10) (by kernel_rfl) rfl (fun K9 hK9 => ?_)
      go_simp
      refine hK9.out _ _ (fun _ h => absurd rfl h) (fun _ => ?_)
      clear hK9 K9
      try simp only [Act.put, List.setIfInBounds_toArray, List.set_cons_zero, List.set_cons_succ]
      refine wpU_done (by kernel_rfl) ?_ _
      have hn5 : n = n5 := by rw [← t5.1.1, pls_len _ _ HPL.out]; exact HSL.out.symm
      subst hn5
      have RB2 : RwB y4 g9 n sm := ⟨_, _, _, _, a9_4, t9.below H4⟩
      have V1 := RB2.set (b := b9) (c := c5) t5
      rw [HSX.out] at V1
      have V2 := q6_bl (bl_then B0 H4) hgb (.slice A5 n c5) (.int .i64 x5.v) (.slice x5.A x5.n x5.c) (.int .i64 x5.v') (.slice x5.A' x5.n' x5.c') (.bool b9)
      have V3 := q6_far (blk_below az H4) hg9w (.slice A5 n c5) (.int .i64 x5.v) (.slice x5.A x5.n x5.c) (.int .i64 x5.v') (.slice x5.A' x5.n' x5.c') (.bool b9)
      have HV1 := Lib.hid V1
      have HV2 := Lib.hid V2
      have HV3 := Lib.hid V3
      clear V1 V2 V3 RB2 hS0 hS1 hS2 hS3 hS4
      go_wp2
      go_roundw
      case rel => exact ⟨kk + 1, hlt, by go_num, HV1.out, HV3.out, HV2.out⟩
      case measure => simp [intOf]; omega
     ·have hkn : m = kk := by omega
      subst hkn
      obtain ⟨A9, c9, x9, b9, a9, t9⟩ := RB
      have lg9 := blk_lt a9
      obtain ⟨hsl, hsm⟩ := HSZ.out m (Nat.le_refl m)
      have HQE : Hid ((smK n F M m).1 ++ [(smK n F M m).2] ++ [((1 : Int) : Rat)] = cbQ n F M) := Lib.hid (by unfold cbQ; rw [L.out]; rfl)
      have HQL : Hid ((cbQ n F M).length = n + 2) := Lib.hid (by rw [← HQE.out]; simp [hsl])
      have HQS : Hid (∀ j, SzR 20000 ((cbQ n F M).getD j 0)) := Lib.hid fun j => by
       rw [← HQE.out]
       have z0 : SzR 20000 (0 : Rat) := SzR.mono (k := 1) ⟨by unfold Sz; decide, by unfold Sz; decide⟩ (by omega)
       rcases Nat.lt_or_ge j n with hj | hj
       ·rw [List.append_assoc, List.getD_eq_getElem?_getD, List.getElem?_append_left (by omega), ← List.getD_eq_getElem?_getD]; exact hsm.1 j
       ·rcases Nat.lt_or_ge j (n + 1) with hj' | hj'
        ·have : j = n := by omega
         subst this
         rw [List.getD_eq_getElem?_getD, List.getElem?_append_left (by simp [hsl]), ← List.getD_eq_getElem?_getD, getD_app_one _ _ _ _ hsl]; exact hsm.2
        ·rcases Nat.lt_or_ge j (n + 2) with hj'' | hj''
         ·have : j = n + 1 := by omega
          subst this
          rw [getD_app_one _ _ _ _ (by simp [hsl])]
          exact SzR.mono (k := 1) ⟨by unfold Sz; decide, by unfold Sz; decide⟩ (by omega)
         ·rw [List.getD_eq_getElem?_getD, List.getElem?_eq_none (by simp [hsl]; omega)]; exact z0
      clear hsl hsm HSZ
      generalize smK n F M m = sm at *
      generalize wr = W1 at *
      go_upto_region 11 with (fail)
      go_cut [12] (fun p wc => ∃ (gs cap base : Nat), p = .slice (some ⟨gs, 0, none⟩) (n + 1 + 1) cap ∧ OwnJ wc base gs (n + 1 + 1) cap (scl (cbQ n F M)) ∧ Below W1.heap.size W1 wc)
      case first =>
       have hSd : ∀ W, Below W1.heap.size W1 W → W.cell? ⟨g9, 0, none⟩ = some (Value.slice A9 n c9) ∧ W.cell? ⟨g9, 1, none⟩ = some (Value.int .i64 x9.v) ∧ W.cell? ⟨g9, 2, none⟩ = some (Value.slice x9.A x9.n x9.c) ∧ W.cell? ⟨g9, 3, none⟩ = some (Value.int .i64 x9.v') ∧ W.cell? ⟨g9, 4, none⟩ = some (Value.slice x9.A' x9.n' x9.c') ∧ W.cell? ⟨g9, 5, none⟩ = some (Value.bool b9) := fun W hB => qx6 (blk_below a9 hB)
       have hS0 := hSd W1.drew (bl_drew (Below.refl _ _))
       refine wp_region_U (n := 11) (fun W => W.cell? ⟨g9, 0, none⟩ = some (Value.slice A9 n c9) ∧ W.cell? ⟨g9, 1, none⟩ = some (Value.int .i64 x9.v) ∧ W.cell? ⟨g9, 2, none⟩ = some (Value.slice x9.A x9.n x9.c) ∧ W.cell? ⟨g9, 3, none⟩ = some (Value.int .i64 x9.v') ∧ W.cell? ⟨g9, 4, none⟩ = some (Value.slice x9.A' x9.n' x9.c') ∧ W.cell? ⟨g9, 5, none⟩ = some (Value.bool b9)) (by kernel_rfl) ?_
       refine wpU_take (n := 11) (i := 0) (v := ?_) (by decide) (by kernel_rfl) rfl (by kernel_rfl) (by kernel_rfl) (by kernel_rfl) (fun _ _ _ h => h) (by kernel_rfl) (Or.inl ⟨by rfl, ?_⟩) hS0 ?_
       rotate_left
       ·intro w' hSw
        (try dsimp only at hSw)
        go_simp
        (try with_reducible rfl)
       try simp only [Act.put, List.setIfInBounds_toArray, List.set_cons_zero, List.set_cons_succ]
       refine wpU_take (n := 11) (i := 1) (v := ?_) (by decide) (by kernel_rfl) rfl (by kernel_rfl) (by kernel_rfl) (by kernel_rfl) (fun _ _ _ h => h) (by kernel_rfl) (Or.inl ⟨by rfl, ?_⟩) hS0 ?_
       rotate_left
       ·intro w' hSw
        (try dsimp only at hSw)
        go_simp
        (try with_reducible rfl)
       try simp only [Act.put, List.setIfInBounds_toArray, List.set_cons_zero, List.set_cons_succ]
       refine wpU_take (n := 11) (i := 3) (v := ?_) (by decide) (by kernel_rfl) rfl (by kernel_rfl) (by kernel_rfl) (by kernel_rfl) (fun _ _ _ h => h) (by kernel_rfl) (Or.inl ⟨by rfl, ?_⟩) hS0 ?_
       rotate_left
       ·intro w' hSw
        (try dsimp only at hSw)
        go_simp
        (try with_reducible rfl)
       try simp only [Act.put, List.setIfInBounds_toArray, List.set_cons_zero, List.set_cons_succ]
       refine wpU_take (n := 11) (i := 4) (v := ?_) (by decide) (by kernel_rfl) rfl (by kernel_rfl) (by kernel_rfl) (by kernel_rfl) (fun _ _ _ h => h) (by kernel_rfl) (Or.inl ⟨by rfl, ?_⟩) hS0 ?_
       rotate_left
       ·intro w' hSw
        (try dsimp only at hSw)
        go_simp
        (try with_reducible rfl)
       try simp only [Act.put, List.setIfInBounds_toArray, List.set_cons_zero, List.set_cons_succ]
       refine wpU_two (n := 11) (i := 2) (k := 5) (by kernel_rfl) rfl rfl (fun K9 hK9 => ?_) (fun K9 hK9 => ?_)
       ·go_simp
        refine (clone_calls A9 n c9 sm.1 _ (t9.1.below (bl_drew (Below.refl _ _)))).mono ?_
        rintro e y1 ⟨⟨v1, rfl, O1⟩, hB1⟩
        have V1 : Below W1.heap.size W1 y1 := bl_then (bl_drew (Below.refl _ _)) hB1
        replace O1 : KQ.Own y1 W1.heap.size v1 n sm.1 := O1
        refine hK9.out _ _ (fun _ _ => hSd _ V1) (fun _ => ?_)
        clear hK9 K9
        try simp only [Act.put, List.setIfInBounds_toArray, List.set_cons_zero, List.set_cons_succ]
        refine wpU_one (n := 11) (i := 5) (by kernel_rfl) rfl (fun K9 hK9 => ?_)
        go_simp
        have V2 := bl_alloc V1 (.cells #[.int .i64 x9.v, .slice x9.A x9.n x9.c, .int .i64 x9.v', .slice x9.A' x9.n' x9.c'] 88)
        refine hK9.out _ _ (fun _ _ => hSd _ V2) (fun _ => ?_)
        clear hK9 K9
        try simp only [Act.put, List.setIfInBounds_toArray, List.set_cons_zero, List.set_cons_succ]
        replace O1 := Kind.Own.below KQ.ok O1 (bl_alloc (Below.refl _ _) (.cells #[.int .i64 x9.v, .slice x9.A x9.n x9.c, .int .i64 x9.v', .slice x9.A' x9.n' x9.c'] 88))
        obtain ⟨v6, W6, hrun6, O2, hgr6⟩ := appg1 (c := 1) (g := y1.heap.size) KQ.ok 83 _ 64 info_rat Tryz.underlying83 rfl (by omega) O1 x9 sm.2 _ (blk_at _ rfl) rfl (RC.Is.below t9.2 V2) (by omega) V2.size
        have V6 : Below W1.heap.size W1 W6 := below_of_grown V2 hgr6 V2.size (fun b hb => by have := O1.ge b hb; (try simp at this); omega)
        have HR6 := Lib.hid hrun6
        clear hrun6
        refine wpU_one (n := 11) (i := 6) (by kernel_rfl) rfl (fun K9 hK9 => ?_)
        refine oper_ap rfl (.tmp 58) (.tmp 61) 83 (by rfl) _ _ (by rfl) (by rfl) _ (by rfl) _ _ HR6.out ?_
        refine hK9.out _ _ (fun _ _ => hSd _ V6) (fun _ => ?_)
        clear hK9 K9
        try simp only [Act.put, List.setIfInBounds_toArray, List.set_cons_zero, List.set_cons_succ]
        refine wpU_one (n := 11) (i := 7) (by kernel_rfl) rfl (fun K9 hK9 => ?_)
        go_simp
        refine (wholei_calls 1 _ (by decide) (by decide)).mono ?_
        rintro e y7 ⟨⟨v7, A7, n7, c7, v7', A7', n7', c7', rfl, t7⟩, hB7⟩
        have V7 := bl_then V6 hB7
        refine hK9.out _ _ (fun _ _ => hSd _ V7) (fun _ => ?_)
        clear hK9 K9
        try simp only [Act.put, List.setIfInBounds_toArray, List.set_cons_zero, List.set_cons_succ]
        refine wpU_one (n := 11) (i := 8) (by kernel_rfl) rfl (fun K9 hK9 => ?_)
        go_simp
        have V8 := bl_alloc V7 (.cells #[.int .i64 v7, .slice A7 n7 c7, .int .i64 v7', .slice A7' n7' c7'] 88)
        refine hK9.out _ _ (fun _ _ => hSd _ V8) (fun _ => ?_)
        clear hK9 K9
        try simp only [Act.put, List.setIfInBounds_toArray, List.set_cons_zero, List.set_cons_succ]
        have O3 := Kind.Own.below KQ.ok O2 (bl_alloc hB7 (.cells #[.int .i64 v7, .slice A7 n7 c7, .int .i64 v7', .slice A7' n7' c7'] 88))
        have t8 : KQ.Is (y7.alloc (.cells #[.int .i64 v7, .slice A7 n7 c7, .int .i64 v7', .slice A7' n7' c7'] 88)) ⟨v7, A7, n7, c7, v7', A7', n7', c7'⟩ (((1 : Int) : Rat)) := RatV.below t7 (bl_alloc (Below.refl _ _) _)
        have HG6 := O2.ge
        obtain ⟨v9, W9, hrun9, O4, hgr9⟩ := appg1 (c := 1) (g := y7.heap.size) KQ.ok 83 _ 64 info_rat Tryz.underlying83 rfl (by omega) O3 ⟨v7, A7, n7, c7, v7', A7', n7', c7'⟩ (((1 : Int) : Rat)) _ (blk_at _ rfl) rfl t8 (by omega) V8.size
        have V9 : Below W1.heap.size W1 W9 := below_of_grown V8 hgr9 V8.size (fun b hb => by have := O3.ge b hb; omega)
        have HR9 := Lib.hid hrun9
        clear hrun9
        refine wpU_one (n := 11) (i := 9) (by kernel_rfl) rfl (fun K9 hK9 => ?_)
        refine oper_ap rfl (.tmp 62) (.tmp 64) 83 (by rfl) _ _ (by rfl) (by rfl) _ (by rfl) _ _ HR9.out ?_
        refine hK9.out _ _ (fun _ _ => hSd _ V9) (fun _ => ?_)
        clear hK9 K9
        try simp only [Act.put, List.setIfInBounds_toArray, List.set_cons_zero, List.set_cons_succ]
        obtain ⟨A8, c8, rfl, hrd⟩ := KQ.rdQ O4 (by omega)
        rw [HQE.out] at hrd
        refine wpU_one (n := 11) (i := 10) (by kernel_rfl) rfl (fun K9 hK9 => ?_)
        go_simp
        refine (scaled_calls A8 (n + 1 + 1) c8 (cbQ n F M) _ hrd 20000 HQS.out (by omega)).mono ?_
        rintro e y10 ⟨⟨gs, cap, rfl, OJ⟩, hB10⟩
        have V10 := bl_then V9 hB10
        refine hK9.out _ _ (fun _ _ => hSd _ V10) (fun _ => ?_)
        clear hK9 K9
        try simp only [Act.put, List.setIfInBounds_toArray, List.set_cons_zero, List.set_cons_succ]
        refine wpU_one (n := 11) (i := 11) (by kernel_rfl) rfl (fun K9 hK9 => ?_)
        go_simp
        refine hK9.out _ _ (fun _ h => absurd rfl h) (fun _ => ?_)
        clear hK9 K9
        try simp only [Act.put, List.setIfInBounds_toArray, List.set_cons_zero, List.set_cons_succ]
        refine wpU_done (by kernel_rfl) ?_ _
        go_wp2
        go_meet
        case rel => exact ⟨gs, cap, _, rfl, OJ, V10⟩
       ·go_simp
        have V1 : Below W1.heap.size W1 (W1.drew.alloc (.cells #[.int .i64 x9.v, .slice x9.A x9.n x9.c, .int .i64 x9.v', .slice x9.A' x9.n' x9.c'] 88)) := bl_alloc (bl_drew (Below.refl _ _)) _
        refine hK9.out _ _ (fun _ _ => hSd _ V1) (fun _ => ?_)
        clear hK9 K9
        try simp only [Act.put, List.setIfInBounds_toArray, List.set_cons_zero, List.set_cons_succ]
        refine wpU_one (n := 11) (i := 2) (by kernel_rfl) rfl (fun K9 hK9 => ?_)
        go_simp
        refine (clone_calls A9 n c9 sm.1 _ (t9.1.below V1)).mono ?_
        rintro e y1 ⟨⟨v1, rfl, O1⟩, hB1⟩
        have V2 : Below W1.heap.size W1 y1 := bl_then V1 hB1
        replace O1 : KQ.Own y1 W1.heap.size v1 n sm.1 := Kind.Own.base2 O1 V1.size
        have EA : y1.heap[W1.heap.size]? = some (.cells #[.int .i64 x9.v, .slice x9.A x9.n x9.c, .int .i64 x9.v', .slice x9.A' x9.n' x9.c'] 88 (0, 0)) := blk_below (blk_at (W := W1.drew) _ rfl) hB1
        refine hK9.out _ _ (fun _ _ => hSd _ V2) (fun _ => ?_)
        clear hK9 K9
        try simp only [Act.put, List.setIfInBounds_toArray, List.set_cons_zero, List.set_cons_succ]
        obtain ⟨v6, W6, hrun6, O2, hgr6⟩ := appg1 (c := 1) (g := W1.heap.size) KQ.ok 83 _ 64 info_rat Tryz.underlying83 rfl (by omega) O1 x9 sm.2 _ EA rfl (RC.Is.below t9.2 V2) (by omega) V2.size
        have V6 : Below W1.heap.size W1 W6 := below_of_grown V2 hgr6 V2.size (fun b hb => by have := O1.ge b hb; (try simp at this); omega)
        have HR6 := Lib.hid hrun6
        clear hrun6
        refine wpU_one (n := 11) (i := 6) (by kernel_rfl) rfl (fun K9 hK9 => ?_)
        refine oper_ap rfl (.tmp 58) (.tmp 61) 83 (by rfl) _ _ (by rfl) (by rfl) _ (by rfl) _ _ HR6.out ?_
        refine hK9.out _ _ (fun _ _ => hSd _ V6) (fun _ => ?_)
        clear hK9 K9
        try simp only [Act.put, List.setIfInBounds_toArray, List.set_cons_zero, List.set_cons_succ]
        refine wpU_one (n := 11) (i := 7) (by kernel_rfl) rfl (fun K9 hK9 => ?_)
        go_simp
        refine (wholei_calls 1 _ (by decide) (by decide)).mono ?_
        rintro e y7 ⟨⟨v7, A7, n7, c7, v7', A7', n7', c7', rfl, t7⟩, hB7⟩
        have V7 := bl_then V6 hB7
        refine hK9.out _ _ (fun _ _ => hSd _ V7) (fun _ => ?_)
        clear hK9 K9
        try simp only [Act.put, List.setIfInBounds_toArray, List.set_cons_zero, List.set_cons_succ]
        refine wpU_one (n := 11) (i := 8) (by kernel_rfl) rfl (fun K9 hK9 => ?_)
        go_simp
        have V8 := bl_alloc V7 (.cells #[.int .i64 v7, .slice A7 n7 c7, .int .i64 v7', .slice A7' n7' c7'] 88)
        refine hK9.out _ _ (fun _ _ => hSd _ V8) (fun _ => ?_)
        clear hK9 K9
        try simp only [Act.put, List.setIfInBounds_toArray, List.set_cons_zero, List.set_cons_succ]
        have O3 := Kind.Own.below KQ.ok O2 (bl_alloc hB7 (.cells #[.int .i64 v7, .slice A7 n7 c7, .int .i64 v7', .slice A7' n7' c7'] 88))
        have t8 : KQ.Is (y7.alloc (.cells #[.int .i64 v7, .slice A7 n7 c7, .int .i64 v7', .slice A7' n7' c7'] 88)) ⟨v7, A7, n7, c7, v7', A7', n7', c7'⟩ (((1 : Int) : Rat)) := RatV.below t7 (bl_alloc (Below.refl _ _) _)
        have HG6 := O2.ge
        obtain ⟨v9, W9, hrun9, O4, hgr9⟩ := appg1 (c := 1) (g := y7.heap.size) KQ.ok 83 _ 64 info_rat Tryz.underlying83 rfl (by omega) O3 ⟨v7, A7, n7, c7, v7', A7', n7', c7'⟩ (((1 : Int) : Rat)) _ (blk_at _ rfl) rfl t8 (by omega) V8.size
        have V9 : Below W1.heap.size W1 W9 := below_of_grown V8 hgr9 V8.size (fun b hb => by have := O3.ge b hb; omega)
        have HR9 := Lib.hid hrun9
        clear hrun9
        refine wpU_one (n := 11) (i := 9) (by kernel_rfl) rfl (fun K9 hK9 => ?_)
        refine oper_ap rfl (.tmp 62) (.tmp 64) 83 (by rfl) _ _ (by rfl) (by rfl) _ (by rfl) _ _ HR9.out ?_
        refine hK9.out _ _ (fun _ _ => hSd _ V9) (fun _ => ?_)
        clear hK9 K9
        try simp only [Act.put, List.setIfInBounds_toArray, List.set_cons_zero, List.set_cons_succ]
        obtain ⟨A8, c8, rfl, hrd⟩ := KQ.rdQ O4 (by omega)
        rw [HQE.out] at hrd
        refine wpU_one (n := 11) (i := 10) (by kernel_rfl) rfl (fun K9 hK9 => ?_)
        go_simp
        refine (scaled_calls A8 (n + 1 + 1) c8 (cbQ n F M) _ hrd 20000 HQS.out (by omega)).mono ?_
        rintro e y10 ⟨⟨gs, cap, rfl, OJ⟩, hB10⟩
        have V10 := bl_then V9 hB10
        refine hK9.out _ _ (fun _ _ => hSd _ V10) (fun _ => ?_)
        clear hK9 K9
        try simp only [Act.put, List.setIfInBounds_toArray, List.set_cons_zero, List.set_cons_succ]
        refine wpU_one (n := 11) (i := 11) (by kernel_rfl) rfl (fun K9 hK9 => ?_)
        go_simp
        refine hK9.out _ _ (fun _ h => absurd rfl h) (fun _ => ?_)
        clear hK9 K9
        try simp only [Act.put, List.setIfInBounds_toArray, List.set_cons_zero, List.set_cons_succ]
        refine wpU_done (by kernel_rfl) ?_ _
        go_wp2
        go_meet
        case rel => exact ⟨gs, cap, _, rfl, OJ, V10⟩
      case rest =>
       obtain ⟨gs, cap, base, rfl, OJ, hBc⟩ := hcut
       replace az := blk_below az hBc
       replace B0 := bl_then B0 hBc
       clear hBc a9 t9 lg9
       have HLL : Hid ((scl (cbQ n F M)).length = n + 1 + 1) := Lib.hid (by rw [scl_len]; exact HQL.out)
       clear HQE HQL HQS
       generalize scl (cbQ n F M) = L1 at *
       obtain ⟨ci, hci, qi⟩ := made_i n (by omega)
       have OI := hci wc wc.heap.size wc.heap.size rfl (Nat.le_refl _)
       obtain ⟨cur, hcur, hcs⟩ : ∃ cur : Array Value, ((wc.alloc (.cells ci 3)).heap[wc.heap.size]? = some (.cells cur 3 (0, 0))) ∧ cur.size = n := ⟨ci, blk_at _ rfl, by
        obtain ⟨_, A2, c2, hv, hr, _⟩ := RdI.own OI
        rcases OI.2 with ⟨h0, _⟩ | ⟨g', cap', cur', hv', hb', hg', hcap, hsz, hsize, _⟩
        ·cases h0
        ·cases hv'
         have e := (blk_at (W := wc) (.cells ci 3) rfl).symm.trans hg'
         cases e
         rw [hsize, Nat.mul_one]⟩
       clear hci OI
       have hzw := blk_lt az
       have a13 : (((wc.alloc (.cells ci 3)).alloc (.cells #[.slice (some ⟨wc.heap.size, 0, none⟩) n n, .int .i64 0] 44)).alloc (.cells #[.int .i64 0, .int .i64 0, .int .i64 0, .int .i64 0, .int .i64 0, .int .i64 0, .int .i64 0, .int .i64 0, .int .i64 0, .int .i64 0] 114)).heap[wc.heap.size + 1]? = some (.cells #[.slice (some ⟨wc.heap.size, 0, none⟩) n n, .int .i64 0] 44 (0, 0)) := blk_alloc (blk_at _ (by simp)) _
       have a14 : (((wc.alloc (.cells ci 3)).alloc (.cells #[.slice (some ⟨wc.heap.size, 0, none⟩) n n, .int .i64 0] 44)).alloc (.cells #[.int .i64 0, .int .i64 0, .int .i64 0, .int .i64 0, .int .i64 0, .int .i64 0, .int .i64 0, .int .i64 0, .int .i64 0, .int .i64 0] 114)).heap[wc.heap.size + 1 + 1]? = some (.cells #[.int .i64 0, .int .i64 0, .int .i64 0, .int .i64 0, .int .i64 0, .int .i64 0, .int .i64 0, .int .i64 0, .int .i64 0, .int .i64 0] 114 (0, 0)) := blk_at _ (by simp)
       replace hcur := blk_alloc (blk_alloc hcur (.cells #[.slice (some ⟨wc.heap.size, 0, none⟩) n n, .int .i64 0] 44)) (.cells #[.int .i64 0, .int .i64 0, .int .i64 0, .int .i64 0, .int .i64 0, .int .i64 0, .int .i64 0, .int .i64 0, .int .i64 0, .int .i64 0] 114)
       have BX : Below wc.heap.size wc (((wc.alloc (.cells ci 3)).alloc (.cells #[.slice (some ⟨wc.heap.size, 0, none⟩) n n, .int .i64 0] 44)).alloc (.cells #[.int .i64 0, .int .i64 0, .int .i64 0, .int .i64 0, .int .i64 0, .int .i64 0, .int .i64 0, .int .i64 0, .int .i64 0, .int .i64 0] 114)) := bl_alloc (bl_alloc (bl_alloc (Below.refl _ _) _) _) _
       have hs2 : (((wc.alloc (.cells ci 3)).alloc (.cells #[.slice (some ⟨wc.heap.size, 0, none⟩) n n, .int .i64 0] 44)).alloc (.cells #[.int .i64 0, .int .i64 0, .int .i64 0, .int .i64 0, .int .i64 0, .int .i64 0, .int .i64 0, .int .i64 0, .int .i64 0, .int .i64 0] 114)).heap.size = wc.heap.size + 1 + 1 + 1 := by simp
       replace az := blk_below az BX
       replace B0 := bl_then B0 BX
       have hgs := OJ.ge.2
       replace OJ := OJ.below BX
       go_upto_region 14 with (fail)
       clear qi BX
       generalize ((wc.alloc (.cells ci 3)).alloc (.cells #[.slice (some ⟨wc.heap.size, 0, none⟩) n n, .int .i64 0] 44)).alloc (.cells #[.int .i64 0, .int .i64 0, .int .i64 0, .int .i64 0, .int .i64 0, .int .i64 0, .int .i64 0, .int .i64 0, .int .i64 0, .int .i64 0] 114) = W2 at *
       have hg13 : wc.heap.size < wc.heap.size + 1 := by omega
       generalize hgq : wc.heap.size = gq at *
       have hzq : w.heap.size < gq := hzw
       have hsq : gs < gq := hgs
       clear hgq hzw hgs hg13
       have HA0 : Hid ((ints .i64 (uptoi (fun j => L1.getD j 0) 10 0)).toArray = #[.int .i64 0, .int .i64 0, .int .i64 0, .int .i64 0, .int .i64 0, .int .i64 0, .int .i64 0, .int .i64 0, .int .i64 0, .int .i64 0]) := Lib.hid (by rw [← uptoi_zero]; rfl)
       rw [← HA0.out] at a14
       clear HA0
       have HAZ := Lib.hid az
       have HB0 := Lib.hid B0
       have HOJ := Lib.hid OJ
       have HA13 := Lib.hid a13
       have HCUR := Lib.hid hcur
       have HA14 := Lib.hid a14
       clear az B0 OJ a13 hcur
       go_wp2_with fail
       go_loopw [72] (fun i wr => ∃ kk : Nat, kk ≤ n + 1 + 1 ∧ i = .int .i64 kk ∧ Hid (∀ j, j < kk → mid (L1.getD j 0)) ∧ wr.heap[gq + 1 + 1]? = some (.cells (ints .i64 (uptoi (fun j => L1.getD j 0) 10 kk)).toArray 114 (0, 0)) ∧ Below (gq + 1 + 1) W2 wr) (fun i _ => n + 1 + 1 - (intOf i).toNat)
       case atStart => exact ⟨0, Nat.zero_le _, rfl, Lib.hid fun j hj => absurd hj (by omega), a14, Below.refl _ _⟩
       case round =>
        clear a14
        obtain ⟨kk, hkk, rfl, HMID, a14, hBx⟩ := hrel
        by_cases hlt : kk < n + 1 + 1
        ·have hk2 : Kp 172 W2 wr := kp_under hs2 HA14.out hBx (by decide)
         have OJ := HOJ.out.far (w' := wr) (hBx.block gs (by omega)) hk2
         obtain ⟨y, p1, p2, hy⟩ := OJ.at kk hlt
         have hmem : L1.getD kk 0 ∈ L1 := mem_getD (by rw [HLL.out]; exact hlt)
         have HM2 : Hid (mid (L1.getD kk 0) → ∀ j, j < kk + 1 → mid (L1.getD j 0)) := Lib.hid fun e j hj => by
          rcases Nat.lt_or_ge j kk with h | h
          ·exact HMID.out j h
          ·have : j = kk := by omega
           rw [this]; exact e
         have HNM : Hid (¬ mid (L1.getD kk 0) → E9 = (([], 0), 0, 3)) := Lib.hid fun e => HFULL.out fun hall => e (hall _ hmem)
         have HST : Hid ((ints .i64 (uptoi (fun j => L1.getD j 0) 10 kk)).toArray.setIfInBounds kk (.int .i64 (L1.getD kk 0)) = (ints .i64 (uptoi (fun j => L1.getD j 0) 10 (kk + 1))).toArray) := Lib.hid (by
          rw [List.setIfInBounds_toArray]
          congr 1
          unfold ints
          rw [← List.map_set, uptoi_set (fun j => L1.getD j 0) 10 kk (by omega)])
         have hsz : kk < ((ints .i64 (uptoi (fun j => L1.getD j 0) 10 kk)).toArray).size := by simp [ints, uptoi]; omega
         obtain ⟨u, hu⟩ : ∃ u, (ints .i64 (uptoi (fun j => L1.getD j 0) 10 kk)).toArray[kk]? = some u := ⟨_, Array.getElem?_eq_getElem hsz⟩
         clear OJ hmem hk2 hsz
         have hy2 : IntV wr y.v y.A y.n y.c (L1.getD kk 0) := hy
         clear hy
         generalize L1.getD kk 0 = z at *
         have hy3 := IntV.below hy2 (bl_alloc (Below.refl _ _) (.cells #[.int .i64 y.v, .slice y.A y.n y.c] 86))
         have a16 : (wr.alloc (.cells #[.int .i64 y.v, .slice y.A y.n y.c] 86)).heap[wr.heap.size]? = some (.cells #[.int .i64 y.v, .slice y.A y.n y.c] 86 (0, 0)) := blk_at _ rfl
         replace a14 := blk_alloc a14 (.cells #[.int .i64 y.v, .slice y.A y.n y.c] 86)
         have hB2 : Below (gq + 1 + 1) W2 (wr.alloc (.cells #[.int .i64 y.v, .slice y.A y.n y.c] 86)) := hBx.trans (Below.mono (bl_alloc (Below.refl _ _) _) (by have := hBx.size; omega))
         have hk0 : (0 : Int) ≤ (kk : Int) := by omega
         have hkn : (kk : Int) < ((n + 1 + 1 : Nat) : Int) := by omega
         have hk10 : (kk : Int) < 10 := by omega
         obtain ⟨q1, q2, q3, q4⟩ := bx2 a16
         clear hy2
         by_cases hmid : mid z
         ·have HMN := Lib.hid (HM2.out hmid)
          obtain ⟨hm1, hm2⟩ := hmid
          go_wp2_with fail
          refine (int_yes y.v y.A y.n y.c z 1152921504606846976 _ hy3 hm1 hm2 (by decide)).mono ?_
          rintro e w5 ⟨rfl, hB5⟩
          replace a14 := blk_below a14 hB5
          have hB6 : Below (gq + 1 + 1) W2 w5 := hB2.trans (hB5.mono (by have := hB2.size; omega))
          have V1 := blk_set a14 kk (.int .i64 z)
          rw [HST.out] at V1
          have HV1 := Lib.hid V1
          have HV2 := Lib.hid (hB6.setCell (p := ⟨gq + 1 + 1, kk, none⟩) (Nat.le_refl _) (.int .i64 z))
          have r1 := (blk_cell a14 kk).1.trans hu
          have r2 := (blk_cell a14 kk).2
          clear V1 hB6 hB5 hB2 hBx a16 q1 q2 q3 q4 hy3 p1 p2 a14
          go_wp2_with fail
          go_roundw
          case rel => exact ⟨kk + 1, hlt, by go_num, HMN, HV1.out, HV2.out⟩
          case measure => simp [intOf]; omega
         ·have hy := HNM.out hmid
          subst hy
          go_wp2_with fail
          refine (int_no y.v y.A y.n y.c z 1152921504606846976 _ hy3 (by unfold mid at hmid; omega) (by decide) (by decide)).mono ?_
          rintro e w5 ⟨rfl, hB5⟩
          have hB6 : Below (gq + 1 + 1) W2 w5 := hB2.trans (hB5.mono (by have := hB2.size; omega))
          have az : w5.heap[w.heap.size]? = some (.cells #[.slice none 0 0, .int .i64 0] 44 (0, 0)) := (hB6.block _ (by omega)).trans HAZ.out
          have B0 : Below w.heap.size w w5 := HB0.out.trans (hB6.mono (by omega))
          clear hB6 hB5 hB2 hBx a16 q1 q2 q3 q4 hy3 p1 p2 a14 hmid
          have V1 := blk_set2 az (.slice none 0 0) (.int .i64 0)
          have V2 := bl_set (bl_set B0 (p := ⟨w.heap.size, 0, none⟩) (Nat.le_refl _) (.slice none 0 0)) (p := ⟨w.heap.size, 1, none⟩) (Nat.le_refl _) (.int .i64 0)
          obtain ⟨z1, z2, z3, z4⟩ := bx2 az
          go_wp2
          refine bodyPost_ret (results_cell_tmp2_row rfl _ _ w.heap.size 44 #[.slice none 0 0, .int .i64 0] (0, 0) _ _ _ rfl V1 Tryz.underlying44 rfl (by kernel_rfl) rfl rfl) rfl ?_
          exact ⟨⟨_, rfl, _, _, _, rfl, rfl, by omega, fun h => absurd h (by omega)⟩, V2⟩
        ·have e : n + 1 + 1 = kk := by omega
         subst e
         have hE := HYES.out fun z hz => by
          obtain ⟨j, hj, rfl⟩ := List.getElem_of_mem hz
          have := HMID.out j (by rw [← HLL.out]; exact hj)
          rwa [List.getD_eq_getElem?_getD, List.getElem?_eq_getElem hj] at this
         subst hE
         have az : wr.heap[w.heap.size]? = some (.cells #[.slice none 0 0, .int .i64 0] 44 (0, 0)) := (hBx.block _ (by omega)).trans HAZ.out
         have B0 : Below w.heap.size w wr := HB0.out.trans (hBx.mono (by omega))
         have a13 : wr.heap[gq + 1]? = some (.cells #[.slice (some ⟨gq, 0, none⟩) n n, .int .i64 0] 44 (0, 0)) := (hBx.block _ (by omega)).trans HA13.out
         have hcur : wr.heap[gq]? = some (.cells cur 3 (0, 0)) := (hBx.block _ (by omega)).trans HCUR.out
         have hat : ∀ j, j < n + 1 + 1 → wr.cell? ⟨gq + 1 + 1, j, none⟩ = some (.int .i64 (L1.getD j 0)) := fun j hj => by
          rw [(blk_cell a14 j).1, List.getElem?_toArray]
          unfold ints uptoi
          rw [List.getElem?_map, List.getElem?_map, List.getElem?_range (by omega)]
          simp [hj]
         clear HYES HFULL HMID HAZ HB0 HOJ HA13 HCUR HA14 hBx
         obtain ⟨f1, f2, f3, f4⟩ := bx2 a13
         have hn0 : (0 : Int) ≤ (n : Int) := by omega
         have hn10 : (n : Int) ≤ 10 := by omega
         go_upto_region 22 with (fail)
         go_still_tail 4, (by kernel_rfl)
         change wpList _ _ _ _ _ wr.drew
         have hil : (ints .i64 (L1.take n)).length = n := by rw [ints_length, List.length_take, HLL.out]; omega
         have hnew : (wr.drew.setRow gq (cur.toList.take 0 ++ (ints .i64 (L1.take n) ++ cur.toList.drop (0 + (ints .i64 (L1.take n)).length))).toArray).heap[gq]? = some (.cells (ints .i64 (L1.take n)).toArray 3 (0, 0)) := by
          rw [setRow_heap _ _ _ _ _ _ (blk_drew hcur), hil, List.take_zero, List.nil_append, List.drop_eq_nil_of_le (by rw [Array.length_toList, hcs]; omega), List.append_nil]
         have hoth : ∀ k, k ≠ gq → (wr.drew.setRow gq (cur.toList.take 0 ++ (ints .i64 (L1.take n) ++ cur.toList.drop (0 + (ints .i64 (L1.take n)).length))).toArray).heap[k]? = wr.heap[k]? := fun k hk => setRow_other _ _ _ _ hk
         have hBr : Below w.heap.size w (wr.drew.setRow gq (cur.toList.take 0 ++ (ints .i64 (L1.take n) ++ cur.toList.drop (0 + (ints .i64 (L1.take n)).length))).toArray) := below_setRow (bl_drew B0) (by omega) _
         refine wpList_copy_own rfl (.tmp 90) (.tmp 92) 42 42 rfl 3 Tryz.underlying42 (by kernel_rfl) gq 0 n n ⟨gq + 1 + 1, 0, none⟩ n 10 (by rfl) (by rfl) cur 3 (blk_drew hcur) (ints .i64 (L1.take n)) (by rw [hil]; exact (Nat.min_self n).symm) (fun j v hj => ?_) (by rw [hil, hcs]; omega) (fun v hv => ?_) ?_
         ·have hjn : j < n := by rw [← hil]; exact (List.getElem?_eq_some_iff.1 hj).1
          have e1 := hat j (by omega)
          have e2 : (ints .i64 (L1.take n))[j]? = some (.int .i64 (L1.getD j 0)) := by
           unfold ints
           rw [List.getElem?_map, List.getElem?_take_of_lt hjn, List.getD_eq_getElem?_getD, List.getElem?_eq_getElem (by rw [HLL.out]; omega)]
           rfl
          rw [e2] at hj
          cases hj
          rw [show (⟨gq + 1 + 1, 0, none⟩ : Addr).add j = ⟨gq + 1 + 1, j, none⟩ by unfold Addr.add; split; (· rename_i h; rw [h]); (· simp)]
          exact e1
         ·obtain ⟨x, _, rfl⟩ := List.mem_map.1 hv
          rfl
         ·have az3 := (hoth w.heap.size (by omega)).trans az
          have a133 := (hoth (gq + 1) (by omega)).trans a13
          have a143 := (hoth (gq + 1 + 1) (by omega)).trans a14
          generalize wr.drew.setRow gq (cur.toList.take 0 ++ (ints .i64 (L1.take n) ++ cur.toList.drop (0 + (ints .i64 (L1.take n)).length))).toArray = W5 at *
          have hat5 : ∀ j, j < n + 1 + 1 → W5.cell? ⟨gq + 1 + 1, j, none⟩ = some (.int .i64 (L1.getD j 0)) := fun j hj => by
           rw [(blk_cell a143 j).1, ← (blk_cell a14 j).1]; exact hat j hj
          clear hat f1 f2 f3 f4 az a13 a14 hoth B0 hcur
          obtain ⟨f1, f2, f3, f4⟩ := bx2 a133
          have c0 := hat5 n (by omega)
          have hn10' : (n : Int) < 10 := by omega
          have V1 := blk_set a133 1 (.int .i64 (L1.getD n 0))
          have V2 := blk_far (i := 1) (v := .int .i64 (L1.getD n 0)) az3 (show w.heap.size ≠ gq + 1 by omega)
          have V3 := blk_far (i := 1) (v := .int .i64 (L1.getD n 0)) a143 (show gq + 1 + 1 ≠ gq + 1 by omega)
          have V4 := blk_far (i := 1) (v := .int .i64 (L1.getD n 0)) hnew (show gq ≠ gq + 1 by omega)
          have V5 := hBr.setCell (p := ⟨gq + 1, 1, none⟩) (by show w.heap.size ≤ gq + 1; omega) (.int .i64 (L1.getD n 0))
          have c1 : (W5.setCell ⟨gq + 1, 1, none⟩ (.int .i64 (L1.getD n 0))).cell? ⟨gq + 1 + 1, n + 1, none⟩ = some (.int .i64 (L1.getD (n + 1) 0)) := by
           rw [(blk_cell V3 (n + 1)).1, ← (blk_cell a143 (n + 1)).1]; exact hat5 (n + 1) (by omega)
          have HV1 := Lib.hid V1
          have HV2 := Lib.hid V2
          have HV4 := Lib.hid V4
          have HV5 := Lib.hid V5
          have HC1 := Lib.hid c1
          clear V1 V2 V3 V4 V5 c1 hat5 hnew hBr az3 a143 a133
          generalize hzn : L1.getD n 0 = zn at *
          generalize hzm : L1.getD (n + 1) 0 = zm at *
          have HZN := Lib.hid hzn
          have HZM := Lib.hid hzm
          clear hzn hzm
          go_upto_region 24 with (fail)
          generalize W5.setCell ⟨gq + 1, 1, none⟩ (.int .i64 zn) = W6 at *
          have hwr : IntKind.i64.wrap ((n : Int) + 1) = (n : Int) + 1 := by rw [IntKind.wrap_i64]; omega
          have hwt : ((n : Int) + 1).toNat = n + 1 := by omega
          have hn1 : (n : Int) + 1 < 10 := by omega
          have hn01 : (0 : Int) ≤ (n : Int) + 1 := by omega
          obtain ⟨l1, l2, l3, l4⟩ := bx2 (blk_drew HV2.out)
          have hS0 : (W6.drew.cell? ⟨gq + 1, 0, none⟩ = some (Value.slice (some ⟨gq, 0, none⟩) n n) ∧ W6.drew.cell? ⟨gq + 1, 1, none⟩ = some (Value.int .i64 zn)) ∧ W6.drew.cell? ⟨gq + 1 + 1, n + 1, none⟩ = some (Value.int .i64 zm) := And.intro (qx2 (blk_drew HV1.out)) HC1.out
          have hS5 : (((W6.drew.setCell ⟨w.heap.size, 0, none⟩ (.slice (some ⟨gq, 0, none⟩) n n)).setCell ⟨w.heap.size, 1, none⟩ (.int .i64 zn)).cell? ⟨gq + 1, 0, none⟩ = some (Value.slice (some ⟨gq, 0, none⟩) n n) ∧ ((W6.drew.setCell ⟨w.heap.size, 0, none⟩ (.slice (some ⟨gq, 0, none⟩) n n)).setCell ⟨w.heap.size, 1, none⟩ (.int .i64 zn)).cell? ⟨gq + 1, 1, none⟩ = some (Value.int .i64 zn)) ∧ ((W6.drew.setCell ⟨w.heap.size, 0, none⟩ (.slice (some ⟨gq, 0, none⟩) n n)).setCell ⟨w.heap.size, 1, none⟩ (.int .i64 zn)).cell? ⟨gq + 1 + 1, n + 1, none⟩ = some (Value.int .i64 zm) := And.intro (qx2 (blk_far (blk_far (blk_drew HV1.out) (show gq + 1 ≠ w.heap.size by omega)) (show gq + 1 ≠ w.heap.size by omega))) (((cell_farN (W6.drew) (show gq + 1 + 1 ≠ w.heap.size by omega) _ _ (n + 1))).trans HC1.out)
          have V1 := blk_set2 (blk_drew HV2.out) (.slice (some ⟨gq, 0, none⟩) n n) (.int .i64 zn)
          have V2 := bl_set (bl_set (bl_drew HV5.out) (p := ⟨w.heap.size, 0, none⟩) (Nat.le_refl _) (.slice (some ⟨gq, 0, none⟩) n n)) (p := ⟨w.heap.size, 1, none⟩) (Nat.le_refl _) (.int .i64 zn)
          have V4 := blk_far (i := 1) (v := .int .i64 zn) (blk_far (i := 0) (v := .slice (some ⟨gq, 0, none⟩) n n) (blk_drew HV4.out) (show gq ≠ w.heap.size by omega)) (show gq ≠ w.heap.size by omega)
          have HRI : Hid (RdI ((W6.drew.setCell ⟨w.heap.size, 0, none⟩ (.slice (some ⟨gq, 0, none⟩) n n)).setCell ⟨w.heap.size, 1, none⟩ (.int .i64 zn)) 3 .i64 (some ⟨gq, 0, none⟩) n (L1.take n)) := Lib.hid ⟨by rw [List.length_take, HLL.out]; omega, by omega, fun _ => ⟨gq, 0, _, _, rfl, V4, fun j hj => by
           rw [Nat.zero_add, List.getElem?_toArray]
           unfold ints
           rw [List.getElem?_map, List.getElem?_take_of_lt hj, List.getD_eq_getElem?_getD, List.getElem?_take_of_lt hj, List.getElem?_eq_getElem (by rw [HLL.out]; omega)]
           rfl⟩⟩
          have HV1' := Lib.hid V1
          have HV2' := Lib.hid V2
          refine wp_region_U (n := 6) (fun W => (W.cell? ⟨gq + 1, 0, none⟩ = some (Value.slice (some ⟨gq, 0, none⟩) n n) ∧ W.cell? ⟨gq + 1, 1, none⟩ = some (Value.int .i64 zn)) ∧ W.cell? ⟨gq + 1 + 1, n + 1, none⟩ = some (Value.int .i64 zm)) (by kernel_rfl) ?_
          generalize W6.drew = W7 at *
          refine wpU_take (n := 6) (i := 0) (v := ?_) (by decide) (by kernel_rfl) rfl (by kernel_rfl) (by kernel_rfl) (by kernel_rfl) (fun _ _ _ h => h) (by kernel_rfl) (Or.inl ⟨by rfl, ?_⟩) hS0 ?_
          rotate_left
          ·intro w' hSw
           (try dsimp only at hSw)
           go_simp
           (try with_reducible rfl)
          try simp only [Act.put, List.setIfInBounds_toArray, List.set_cons_zero, List.set_cons_succ]
          refine wpU_take (n := 6) (i := 1) (v := ?_) (by decide) (by kernel_rfl) rfl (by kernel_rfl) (by kernel_rfl) (by kernel_rfl) (fun _ _ _ h => h) (by kernel_rfl) (Or.inl ⟨by rfl, ?_⟩) hS0 ?_
          rotate_left
          ·intro w' hSw
           (try dsimp only at hSw)
           go_simp
           (try with_reducible rfl)
          try simp only [Act.put, List.setIfInBounds_toArray, List.set_cons_zero, List.set_cons_succ]
          refine wpU_take (n := 6) (i := 2) (v := ?_) (by decide) (by kernel_rfl) rfl (by kernel_rfl) (by kernel_rfl) (by kernel_rfl) (fun _ _ _ h => h) (by kernel_rfl) (Or.inl ⟨by rfl, ?_⟩) hS0 ?_
          rotate_left
          ·intro w' hSw
           (try dsimp only at hSw)
           go_simp
           (try with_reducible rfl)
          try simp only [Act.put, List.setIfInBounds_toArray, List.set_cons_zero, List.set_cons_succ]
          refine wpU_take (n := 6) (i := 3) (v := ?_) (by decide) (by kernel_rfl) rfl (by kernel_rfl) (by kernel_rfl) (by kernel_rfl) (fun _ _ _ h => h) (by kernel_rfl) (Or.inl ⟨by rfl, ?_⟩) hS0 ?_
          rotate_left
          ·intro w' hSw
           (try dsimp only at hSw)
           go_simp
           (try with_reducible rfl)
          try simp only [Act.put, List.setIfInBounds_toArray, List.set_cons_zero, List.set_cons_succ]
          refine wpU_take (n := 6) (i := 4) (v := ?_) (by decide) (by kernel_rfl) rfl (by kernel_rfl) (by kernel_rfl) (by kernel_rfl) (fun _ _ _ h => h) (by kernel_rfl) (Or.inl ⟨by rfl, ?_⟩) hS0 ?_
          rotate_left
          ·intro w' hSw
           (try dsimp only at hSw)
           go_simp
           (try with_reducible rfl)
          try simp only [Act.put, List.setIfInBounds_toArray, List.set_cons_zero, List.set_cons_succ]
          refine wpU_one (n := 6) (i := 5) (by kernel_rfl) rfl (fun K9 hK9 => ?_)
          go_simp
          refine hK9.out _ _ (fun _ _ => hS5) (fun _ => ?_)
          clear hK9 K9
          try simp only [Act.put, List.setIfInBounds_toArray, List.set_cons_zero, List.set_cons_succ]
          refine wpU_one (n := 6) (i := 6) (by kernel_rfl) rfl (fun K9 hK9 => ?_)
          go_simp
          refine hK9.out _ _ (fun _ h => absurd rfl h) (fun _ => ?_)
          clear hK9 K9
          try simp only [Act.put, List.setIfInBounds_toArray, List.set_cons_zero, List.set_cons_succ]
          refine wpU_one (n := 6) (i := 7) (by kernel_rfl) rfl (fun K9 hK9 => ?_)
          go_simp
          refine hK9.out _ _ (fun h => absurd h (by decide)) (fun _ => ?_)
          clear hK9 K9
          try simp only [Act.put, List.setIfInBounds_toArray, List.set_cons_zero, List.set_cons_succ]
          refine wpU_done (by kernel_rfl) ?_ _
          clear V1 V2 V4 hS0 hS5
          go_wp2
          refine bodyPost_ret (results_cell_tmp2_row rfl _ _ w.heap.size 44 #[.slice (some ⟨gq, 0, none⟩) n n, .int .i64 zn] (0, 0) _ _ _ rfl HV1'.out Tryz.underlying44 rfl (by kernel_rfl) rfl rfl) rfl ?_
          have e1 := HZN.out
          have e2 := HZM.out
          subst e1 e2
          exact ⟨⟨_, rfl, _, _, _, rfl, HRI.out⟩, HV2'.out⟩
   ·have hy := DIM hok hok' (fun e => hmm (by rw [← L.out, ← L'.out, e]))
    subst hy
    have hmI : ((m : Int) != (m' : Int)) = true := by simpa using fun e => hmm (by omega)
    clear NO DIM YES FULL hok hok'
    have V1 := blk_set2 az (.slice none 0 0) (.int .i64 0)
    have V2 := bl_set (bl_set B0 (p := ⟨w.heap.size, 0, none⟩) (Nat.le_refl _) (.slice none 0 0)) (p := ⟨w.heap.size, 1, none⟩) (Nat.le_refl _) (.int .i64 0)
    obtain ⟨z1, z2, z3, z4⟩ := bx2 az
    go_wp2
    refine bodyPost_ret (results_cell_tmp2_row rfl _ _ w.heap.size 44 #[.slice none 0 0, .int .i64 0] (0, 0) _ _ _ rfl V1 Tryz.underlying44 rfl (by kernel_rfl) rfl rfl) rfl ?_
    exact ⟨⟨_, rfl, _, _, _, rfl, rfl, by omega, fun h => absurd h (by omega)⟩, V2⟩
  ·rw [decide_eq_false hok'] at he
   subst he
   have hy := NO (fun hh => hok' hh.2)
   subst hy
   clear NO DIM YES FULL hok hok'
   have V1 := blk_set2 az (.slice none 0 0) (.int .i64 0)
   have V2 := bl_set (bl_set B0 (p := ⟨w.heap.size, 0, none⟩) (Nat.le_refl _) (.slice none 0 0)) (p := ⟨w.heap.size, 1, none⟩) (Nat.le_refl _) (.int .i64 0)
   obtain ⟨z1, z2, z3, z4⟩ := bx2 az
   go_wp2
   refine bodyPost_ret (results_cell_tmp2_row rfl _ _ w.heap.size 44 #[.slice none 0 0, .int .i64 0] (0, 0) _ _ _ rfl V1 Tryz.underlying44 rfl (by kernel_rfl) rfl rfl) rfl ?_
   exact ⟨⟨_, rfl, _, _, _, rfl, rfl, by omega, fun h => absurd h (by omega)⟩, V2⟩
 ·rw [decide_eq_false hok] at he
  subst he
  have hy := NO (fun hh => hok hh.1)
  subst hy
  clear NO DIM YES FULL hok
  have V1 := blk_set2 az (.slice none 0 0) (.int .i64 0)
  have V2 := bl_set (bl_set B0 (p := ⟨w.heap.size, 0, none⟩) (Nat.le_refl _) (.slice none 0 0)) (p := ⟨w.heap.size, 1, none⟩) (Nat.le_refl _) (.int .i64 0)
  obtain ⟨z1, z2, z3, z4⟩ := bx2 az
  go_wp2
  refine bodyPost_ret (results_cell_tmp2_row rfl _ _ w.heap.size 44 #[.slice none 0 0, .int .i64 0] (0, 0) _ _ _ rfl V1 Tryz.underlying44 rfl (by kernel_rfl) rfl rfl) rfl ?_
  exact ⟨⟨_, rfl, _, _, _, rfl, rfl, by omega, fun h => absurd h (by omega)⟩, V2⟩
end Go.Proofs.YtloplmmnmehkmaaGreat

namespace Go.Proofs.YtloplmmnmehkmaaGreat
open Go.RowKit

def OkX (n : Int) (x : List (Int × Int)) : Prop := dimO n ∧ (x.length : Int) = n ∧ OkNs x
instance (n : Int) (x : List (Int × Int)) : Decidable (OkX n x) := by unfold OkX; infer_instance
set_option maxHeartbeats 40000000
set_option maxRecDepth 100000
theorem RRV.al2 {w : World} {s : Int} {b : Bool} {A : Option Addr} {n c : Nat} {s' : Int} {b' : Bool} {A' : Option Addr} {n' c' : Nat} {q : Rat} (h : RRV w s b A n c s' b' A' n' c' q) (o : Obj) : RRV (w.alloc o) s b A n c s' b' A' n' c' q := h.kp ((Kp.refl _ _).alloc o)
set_option maxHeartbeats 40000000
set_option maxRecDepth 100000
theorem r2rats_calls (A : Option Addr) (m c : Nat) (X : List (Int × Int)) (w : World) (h : RdN w A m X) (hi : I64s X) (hz : ∀ x ∈ X, OkN x.1 x.2) (hm : m ≤ 500) :
  Calls Tryz.prog 32 #[.slice A m c] w fun e w' => (∃ A' c', e = .returned (.slice A' m c') ∧ RdRR w' A' m (X.map ratP)) ∧ Below w.heap.size w w' := by
 have L := Lib.hid h.1
 have HI := Lib.hid hi
 have HZ := Lib.hid hz
 clear hi hz
 go_enter Tryz.func32, Tryz.ntmps32
 have O0 := Kind.Own.nil (K := KP6) w w.heap.size
 have B0 := Below.refl w.heap.size w
 go_wp2_with fail
 go_loopw [3, 8] (fun v i wr => ∃ kk : Nat, kk ≤ m ∧ i = .int .i64 kk ∧ KP6.Own wr w.heap.size v kk ((X.take kk).map ratP) ∧ Below w.heap.size w wr) (fun _ i _ => m - (intOf i).toNat)
 case atStart => exact ⟨0, Nat.zero_le _, rfl, O0, B0⟩
 case round =>
  clear O0 B0
  obtain ⟨kk, hkk, rfl, OW, B0⟩ := hrel
  by_cases hlt : kk < m
  ·obtain ⟨g, off, rfl, hg, hc⟩ := (h.below B0).2.2 (by omega)
   obtain ⟨p1, p2⟩ := hc kk hlt
   have E := Lib.hid (map_take_succ ratP X (0, 0) kk (by rw [L.out]; exact hlt))
   have hmem : X.getD kk (0, 0) ∈ X := mem_getD (by rw [L.out]; exact hlt)
   have hok := HZ.out _ hmem
   have h64 := HI.out _ hmem
   clear hc h hmem
   generalize X.getD kk (0, 0) = x1 at *
   replace OW := OW.below KP6.ok (bl_alloc (Below.refl _ _) (.cells #[.int .i64 x1.1, .int .i64 x1.2] 56))
   replace B0 := bl_alloc B0 (.cells #[.int .i64 x1.1, .int .i64 x1.2] 56)
   go_wp2_with fail
   refine (rto_calls x1.1 x1.2 _ hok).mono ?_
   rintro e w1 ⟨⟨s2, b2, A2, n2, c2, s2', b2', A2', n2', c2', rfl, t2⟩, hB1⟩
   replace OW := OW.below KP6.ok hB1
   replace B0 := bl_then B0 hB1
   clear hB1 p1 p2 hg hok h64
   replace OW := OW.below KP6.ok (bl_alloc (Below.refl _ _) (.cells #[.int .i64 s2, .bool b2, .slice A2 n2 c2, .int .i64 s2', .bool b2', .slice A2' n2' c2'] 51))
   have B1 := bl_alloc B0 (.cells #[.int .i64 s2, .bool b2, .slice A2 n2 c2, .int .i64 s2', .bool b2', .slice A2' n2' c2'] 51)
   have t3 : KP6.Is (w1.alloc (.cells #[.int .i64 s2, .bool b2, .slice A2 n2 c2, .int .i64 s2', .bool b2', .slice A2' n2' c2'] 51)) ⟨s2, b2, A2, n2, c2, s2', b2', A2', n2', c2'⟩ (ratP x1) := RRV.kp t2 ((Kp.refl _ _).alloc _)
   obtain ⟨v', W', hrun, O2, hgr⟩ := appg1 (c := 1) (g := w1.heap.size) KP6.ok 62 _ 80 info_rrat Tryz.underlying62 rfl (by omega) OW ⟨s2, b2, A2, n2, c2, s2', b2', A2', n2', c2'⟩ (ratP x1) _ (blk_at _ rfl) rfl t3 (by omega) B1.size
   rw [← E.out] at O2
   have HR := Lib.hid hrun
   have HO := Lib.hid O2
   have hOB := OW.ge
   have V2 : Hid (Below w.heap.size w W') := Lib.hid (below_of_grown B1 hgr B1.size hOB)
   clear hrun O2 hgr hOB OW B1 t2 t3
   go_wp2_with (at_builtin; refine wpList_ap rfl (.tmp 12) (.tmp 15) 62 (by rfl) _ _ (by rfl) (by rfl) _ (by rfl) _ _ HR.out ?_)
   go_roundw
   case rel => exact ⟨kk + 1, hlt, by go_num, HO.out, V2.out⟩
   case measure => simp [intOf]; omega
  ·have hkn : m = kk := by omega
   subst hkn
   obtain ⟨A', c', rfl, hrd⟩ := KP6.rd OW (by omega)
   rw [List.take_of_length_le (by rw [L.out]; exact Nat.le_refl _)] at hrd
   have HRD := Lib.hid hrd
   clear OW hrd
   go_wp2
   go_ret
   exact ⟨⟨A', c', rfl, HRD.out⟩, B0⟩

end Go.Proofs.YtloplmmnmehkmaaGreat

namespace Go.Proofs.YtloplmmnmehkmaaGreat
open Go.RowKit

theorem qj23 {A B C D E : Prop} (h : A ∧ B) (h2 : C ∧ D ∧ E) : A ∧ B ∧ C ∧ D ∧ E := ⟨h.1, h.2, h2⟩
theorem bx3c {w : World} {g : Nat} {t : TypeId} {a b c : Value} (h : w.heap[g]? = some (.cells #[a, b, c] t (0, 0))) : w.cell? ⟨g, 0, none⟩ = some a ∧ w.cell? ⟨g, 1, none⟩ = some b ∧ w.cell? ⟨g, 2, none⟩ = some c := (bx3 h).1
theorem RV.dr2 {w : World} {s : Int} {b : Bool} {A : Option Addr} {n c : Nat} {z : Int} (h : RV w s b A n c z) : RV w.drew s b A n c z := h.kp (Kp.refl _ _).drew
def smV (x : Int) : Int := if mid x then x else 0
def smB (x : Int) : Bool := decide (mid x)
theorem small_any (s : Int) (b : Bool) (A : Option Addr) (n c : Nat) (x : Int) (w : World) (h : RV w s b A n c x) :
  Calls Tryz.prog 74 #[.agg #[.int .i64 s, .bool b, .slice A n c]] w fun e w' => e = .returned (.tuple #[.int .i64 (smV x), .bool (smB x)]) ∧ Below w.heap.size w w' := by
 unfold smV smB
 by_cases hm : mid x
 ·rw [if_pos hm, decide_eq_true hm]
  exact small_yes s b A n c x w h hm.1 hm.2
 ·rw [if_neg hm, decide_eq_false hm]
  exact small_no s b A n c x w h (by unfold mid at hm; omega)
/-- All of a row fits. -/
def midF (f : Fm) : Prop := (∀ z ∈ f.1, mid z) ∧ mid f.2
instance (f : Fm) : Decidable (midF f) := by unfold midF; infer_instance
def okN (zs : List Int) : Nat → Bool
 | 0 => true
 | k + 1 => okN zs k && smB (zs.getD k 0)
theorem okN_spec (zs : List Int) (k : Nat) : okN zs k = true ↔ ∀ j, j < k → mid (zs.getD j 0) := by
 induction k with
 | zero => exact ⟨fun _ j hj => absurd hj (by omega), fun _ => rfl⟩
 | succ k ih =>
  show (okN zs k && smB (zs.getD k 0)) = true ↔ _
  rw [Bool.and_eq_true, ih]
  unfold smB
  rw [decide_eq_true_iff]
  constructor
  ·intro h j hj
   rcases Nat.lt_or_ge j k with h' | h'
   ·exact h.1 j h'
   ·have : j = k := by omega
    rw [this]; exact h.2
  ·exact fun h => ⟨fun j hj => h j (by omega), h k (by omega)⟩
theorem midF_iff {zs : List Int} {z0 : Int} {n : Nat} (hn : zs.length = n) : decide (midF (zs, z0)) = (okN zs n && smB z0) := by
 have h1 : (okN zs n && smB z0) = true ↔ midF (zs, z0) := by
  rw [Bool.and_eq_true, okN_spec]
  unfold smB midF
  rw [decide_eq_true_iff]
  refine and_congr ⟨fun h z hz => ?_, fun h j hj => h _ (mem_getD (show j < zs.length by omega))⟩ Iff.rfl
  obtain ⟨j, hj, rfl⟩ := List.getElem_of_mem hz
  have hj : j < zs.length := hj
  have := h j (by omega)
  rwa [List.getD_eq_getElem?_getD, List.getElem?_eq_getElem hj] at this
 by_cases h : midF (zs, z0)
 ·rw [decide_eq_true h, h1.2 h]
 ·rw [decide_eq_false h]
  cases e : okN zs n && smB z0 with
  | false => rfl
  | true => exact absurd (h1.1 e) h
set_option maxHeartbeats 40000000
set_option maxRecDepth 100000
theorem r2fromg_calls (A : Option Addr) (n c : Nat) (x : JC) (zs : List Int) (z0 : Int) (w : World) (h : RdR w A n zs) (hx : x.Is w z0) :
  Calls Tryz.prog 73 #[.agg #[.slice A n c, .int .i64 x.s, .bool x.g, .slice x.A x.n x.c]] w fun e w' => (∃ v, e = .returned (.tuple #[v, .bool (decide (midF (zs, z0)))]) ∧ FmR v w' (if midF (zs, z0) then (zs, z0) else ([], 0))) ∧ Below w.heap.size w w' := by
 have LN := Lib.hid h.1
 have hn := h.2.1
 have HD := Lib.hid (midF_iff (z0 := z0) h.1)
 have HIF : Hid ((okN zs n && smB z0) = true → (if midF (zs, z0) then (zs, z0) else (([], 0) : Fm)) = (zs, z0)) := Lib.hid fun e => if_pos (of_decide_eq_true (HD.out.trans e))
 have HIF2 : Hid ((okN zs n && smB z0) = false → (if midF (zs, z0) then (zs, z0) else (([], 0) : Fm)) = ([], 0)) := Lib.hid fun e => if_neg (of_decide_eq_false (HD.out.trans e))
 have HVV : Hid (okN zs n = true → ∀ j, j < n → smV (zs.getD j 0) = zs.getD j 0) := Lib.hid fun e j hj => if_pos ((okN_spec zs n).1 e j hj)
 have HV0 : Hid (smB z0 = true → smV z0 = z0) := Lib.hid fun e => if_pos (of_decide_eq_true e)
 generalize (if midF (zs, z0) then (zs, z0) else (([], 0) : Fm)) = FR at *
 generalize decide (midF (zs, z0)) = D at *
 obtain ⟨cs, om, qm⟩ := made_i n hn
 have OM := Lib.hid om
 clear om
 go_enter Tryz.func73, Tryz.ntmps73
 go_upto_region 3 with (fail)
 have B0 : Below w.heap.size w ((((w.alloc (.cells #[.slice A n c, .int .i64 x.s, .bool x.g, .slice x.A x.n x.c] 60)).alloc (.cells #[.slice none 0 0, .int .i64 0] 44)).alloc (.cells cs 3)).alloc (.cells #[.slice (some ⟨w.heap.size + 1 + 1, 0, none⟩) n n, .int .i64 0] 44)) := bl_alloc (bl_alloc (bl_alloc (bl_alloc (Below.refl w.heap.size w) _) _) _) _
 have a1 : ((((w.alloc (.cells #[.slice A n c, .int .i64 x.s, .bool x.g, .slice x.A x.n x.c] 60)).alloc (.cells #[.slice none 0 0, .int .i64 0] 44)).alloc (.cells cs 3)).alloc (.cells #[.slice (some ⟨w.heap.size + 1 + 1, 0, none⟩) n n, .int .i64 0] 44)).heap[w.heap.size]? = some (.cells #[.slice A n c, .int .i64 x.s, .bool x.g, .slice x.A x.n x.c] 60 (0, 0)) := blk_alloc (blk_alloc (blk_alloc (blk_at _ rfl) _) _) _
 have a2 : ((((w.alloc (.cells #[.slice A n c, .int .i64 x.s, .bool x.g, .slice x.A x.n x.c] 60)).alloc (.cells #[.slice none 0 0, .int .i64 0] 44)).alloc (.cells cs 3)).alloc (.cells #[.slice (some ⟨w.heap.size + 1 + 1, 0, none⟩) n n, .int .i64 0] 44)).heap[w.heap.size + 1]? = some (.cells #[.slice none 0 0, .int .i64 0] 44 (0, 0)) := blk_alloc (blk_alloc (blk_at _ (by simp)) _) _
 have OQ : OwnI ((((w.alloc (.cells #[.slice A n c, .int .i64 x.s, .bool x.g, .slice x.A x.n x.c] 60)).alloc (.cells #[.slice none 0 0, .int .i64 0] 44)).alloc (.cells cs 3)).alloc (.cells #[.slice (some ⟨w.heap.size + 1 + 1, 0, none⟩) n n, .int .i64 0] 44)) w.heap.size (w.heap.size + 1 + 1) n n (List.replicate n 0) := (OM.out _ _ _ (by simp) (by simp; omega)).al _
 have a4 : ((((w.alloc (.cells #[.slice A n c, .int .i64 x.s, .bool x.g, .slice x.A x.n x.c] 60)).alloc (.cells #[.slice none 0 0, .int .i64 0] 44)).alloc (.cells cs 3)).alloc (.cells #[.slice (some ⟨w.heap.size + 1 + 1, 0, none⟩) n n, .int .i64 0] 44)).heap[w.heap.size + 1 + 1 + 1]? = some (.cells #[.slice (some ⟨w.heap.size + 1 + 1, 0, none⟩) n n, .int .i64 0] 44 (0, 0)) := blk_at _ (by simp)
 generalize (((w.alloc (.cells #[.slice A n c, .int .i64 x.s, .bool x.g, .slice x.A x.n x.c] 60)).alloc (.cells #[.slice none 0 0, .int .i64 0] 44)).alloc (.cells cs 3)).alloc (.cells #[.slice (some ⟨w.heap.size + 1 + 1, 0, none⟩) n n, .int .i64 0] 44) = W0 at *
 have c1 := (q4c a1).1
 rw [uptoi_zero (fun j => smV (zs.getD j 0)) n] at OQ
 go_wp2_with fail
 clear c1 qm
 go_loopw [5, 18] (fun bv i wr => ∃ kk : Nat, kk ≤ n ∧ bv = .bool (okN zs kk) ∧ i = .int .i64 kk ∧ OwnI wr w.heap.size (w.heap.size + 1 + 1) n n (uptoi (fun j => smV (zs.getD j 0)) n kk) ∧ wr.heap[w.heap.size + 1 + 1 + 1]? = some (.cells #[.slice (some ⟨w.heap.size + 1 + 1, 0, none⟩) n n, .int .i64 0] 44 (0, 0)) ∧ wr.heap[w.heap.size + 1]? = some (.cells #[.slice none 0 0, .int .i64 0] 44 (0, 0)) ∧ wr.heap[w.heap.size]? = some (.cells #[.slice A n c, .int .i64 x.s, .bool x.g, .slice x.A x.n x.c] 60 (0, 0)) ∧ Below w.heap.size w wr) (fun _ i _ => n - (intOf i).toNat)
 case atStart => exact ⟨0, Nat.zero_le _, rfl, rfl, OQ, a4, a2, a1, B0⟩
 case round =>
  clear OQ a4 a2 a1 B0
  obtain ⟨kk, hkk, rfl, rfl, OQ, a4, a2, a1, B0⟩ := hrel
  by_cases hlt : kk < n
  ·obtain ⟨g, rfl, hg, hc⟩ := (h.below B0).2.2 (by omega)
   obtain ⟨z, ⟨p1, p2, p3⟩, hz0⟩ := hc kk hlt
   have hz : RV wr z.s z.g z.A z.n z.c (zs.getD kk 0) := hz0
   have HOK : Hid (okN zs (kk + 1) = (okN zs kk && smB (zs.getD kk 0))) := Lib.hid rfl
   clear hc h hz0
   have hk0 : (0 : Int) ≤ (kk : Int) := by omega
   have hkn : (kk : Int) < (n : Int) := by omega
   have lw4 := blk_lt a4
   have lws := OQ.ge
   go_upto_region 7 with (fail)
   have a5 : (wr.alloc (.cells #[.int .i64 z.s, .bool z.g, .slice z.A z.n z.c] 49)).heap[wr.heap.size]? = some (.cells #[.int .i64 z.s, .bool z.g, .slice z.A z.n z.c] 49 (0, 0)) := blk_at _ rfl
   replace a4 := blk_alloc a4 (.cells #[.int .i64 z.s, .bool z.g, .slice z.A z.n z.c] 49)
   replace a2 := blk_alloc a2 (.cells #[.int .i64 z.s, .bool z.g, .slice z.A z.n z.c] 49)
   replace a1 := blk_alloc a1 (.cells #[.int .i64 z.s, .bool z.g, .slice z.A z.n z.c] 49)
   replace B0 := bl_alloc B0 (.cells #[.int .i64 z.s, .bool z.g, .slice z.A z.n z.c] 49)
   replace OQ := OQ.al (.cells #[.int .i64 z.s, .bool z.g, .slice z.A z.n z.c] 49)
   replace hz := RV.al2 hz (.cells #[.int .i64 z.s, .bool z.g, .slice z.A z.n z.c] 49)
   clear p1 p2 p3 hg
   generalize hg9 : wr.heap.size = g9 at *
   generalize wr.alloc (.cells #[.int .i64 z.s, .bool z.g, .slice z.A z.n z.c] 49) = W9 at *
   clear hg9
   have HSM : Hid (∀ W, RV W z.s z.g z.A z.n z.c (zs.getD kk 0) → Calls Tryz.prog 74 #[.agg #[.int .i64 z.s, .bool z.g, .slice z.A z.n z.c]] W fun e w' => e = .returned (.tuple #[.int .i64 (smV (zs.getD kk 0)), .bool (smB (zs.getD kk 0))]) ∧ Below W.heap.size W w') := Lib.hid fun W h => small_any z.s z.g z.A z.n z.c _ W h
   generalize hq1 : smV (zs.getD kk 0) = sv at *
   have HQS : Hid ((uptoi (fun j => smV (zs.getD j 0)) n kk).set kk sv = uptoi (fun j => smV (zs.getD j 0)) n (kk + 1)) := Lib.hid (by rw [← hq1]; exact uptoi_set (fun j => smV (zs.getD j 0)) n kk hlt)
   clear hq1
   generalize smB (zs.getD kk 0) = sb at *
   generalize okN zs kk = b0 at *
   generalize zs.getD kk 0 = cz at *
   have a2_0 := a2
   have a4_0 := a4
   have a5_0 := a5
   have HB_0 := B0
   have hz_0 := hz
   go_region_held3 (fun W => W.cell? ⟨w.heap.size + 1 + 1 + 1, 0, none⟩ = some (Value.slice (some ⟨w.heap.size + 1 + 1, 0, none⟩) n n) ∧ W.cell? ⟨w.heap.size + 1 + 1 + 1, 1, none⟩ = some (Value.int .i64 0) ∧ W.cell? ⟨g9, 0, none⟩ = some (Value.int .i64 z.s) ∧ W.cell? ⟨g9, 1, none⟩ = some (Value.bool z.g) ∧ W.cell? ⟨g9, 2, none⟩ = some (Value.slice z.A z.n z.c)) (first | (refine qj23 (qx2 (t := 44) ?_) (bx3c (t := 49) ?_) <;> (repeat (first | with_reducible exact a4_1 | with_reducible exact a4_0 | with_reducible exact a5_1 | with_reducible exact a5_0 | with_reducible refine blk_alloc ?_ _ | with_reducible refine blk_drew ?_ | with_reducible refine blk_far ?_ ?_ | omega)); done) | go_keep) (first | (go_at_call 74; refine (HSM.out _ (by repeat (first | with_reducible exact hz_0 | with_reducible refine RV.al2 ?_ _ | with_reducible refine RV.dr2 ?_))).mono ?_; rintro e ww ⟨rfl, hB5⟩; have a4_1 : ww.heap[w.heap.size + 1 + 1 + 1]? = some (.cells #[.slice (some ⟨w.heap.size + 1 + 1, 0, none⟩) n n, .int .i64 0] 44 (0, 0)) := (by repeat (first | with_reducible exact a4_0 | with_reducible refine blk_below ?_ hB5 | with_reducible refine blk_alloc ?_ _ | with_reducible refine blk_drew ?_)); have a5_1 : ww.heap[g9]? = some (.cells #[.int .i64 z.s, .bool z.g, .slice z.A z.n z.c] 49 (0, 0)) := (by repeat (first | with_reducible exact a5_0 | with_reducible refine blk_below ?_ hB5 | with_reducible refine blk_alloc ?_ _ | with_reducible refine blk_drew ?_)); have a2_1 : ww.heap[w.heap.size + 1]? = some (.cells #[.slice none 0 0, .int .i64 0] 44 (0, 0)) := (by repeat (first | with_reducible exact a2_0 | with_reducible refine blk_below ?_ hB5 | with_reducible refine blk_alloc ?_ _ | with_reducible refine blk_drew ?_)); have a1_1 := (blk_below (blk_drew a1) hB5); have HB_1 : Below w.heap.size w ww := (by repeat (first | with_reducible exact HB_0 | with_reducible refine bl_then ?_ hB5 | with_reducible refine bl_alloc ?_ _ | with_reducible refine bl_drew ?_)); have OQ_1 := (by first | exact OwnI.below OQ hB5 | exact OwnI.below (OwnI.dr OQ) hB5); have o1 := OQ_1.at kk hlt; have o2 := OQ_1.frozen kk; have lg := OQ_1.ge.2) | fail)
   all_goals
    have U1 := Lib.hid (OwnI.set OQ_1 HB_1 (Nat.le_refl _) kk sv)
    have U4 := blk_far (i := kk) (v := .int .i64 sv) a4_1 (show w.heap.size + 1 + 1 + 1 ≠ w.heap.size + 1 + 1 by omega)
    have U3 := blk_far (i := kk) (v := .int .i64 sv) a2_1 (show w.heap.size + 1 ≠ w.heap.size + 1 + 1 by omega)
    have U5 := blk_far (i := kk) (v := .int .i64 sv) a1_1 (show w.heap.size ≠ w.heap.size + 1 + 1 by omega)
    have h9 := U1.out.1
    rw [HQS.out] at h9
    have HU9 := Lib.hid h9
    have HU2 := Lib.hid U1.out.2
    clear h9 U1
    cases b0 <;> (go_wp2; go_roundw; (case rel => exact ⟨kk + 1, hlt, (by rw [HOK.out]; first | rfl | simp), by go_num, HU9.out, U4, U3, U5, HU2.out⟩); (case measure => simp [intOf]; omega))
  ·have hkn : n = kk := by omega
   subst hkn
   have hx1 : RV wr x.s x.g x.A x.n x.c z0 := RV.kp hx (Kp.below B0)
   obtain ⟨f1, f2, f3, f4, _⟩ := q4c a1
   go_wp2_with fail
   refine (small_any x.s x.g x.A x.n x.c z0 _ hx1).mono ?_
   rintro e w5 ⟨rfl, hB5⟩
   replace a4 := blk_below a4 hB5
   replace a2 := blk_below a2 hB5
   replace B0 := bl_then B0 hB5
   replace OQ := OQ.below hB5
   clear f1 f2 f3 f4 a1 hB5 hx1
   have ha := OQ.ge
   have b4 : (w5.setCell ⟨w.heap.size + 1 + 1 + 1, 1, none⟩ (.int .i64 (smV z0))).heap[w.heap.size + 1 + 1 + 1]? = some (.cells #[.slice (some ⟨w.heap.size + 1 + 1, 0, none⟩) n n, .int .i64 (smV z0)] 44 (0, 0)) := blk_set a4 1 _
   have b2 := blk_far (i := 1) (v := .int .i64 (smV z0)) a2 (show w.heap.size + 1 ≠ w.heap.size + 1 + 1 + 1 by omega)
   have bO := OQ.far (w' := w5.setCell ⟨w.heap.size + 1 + 1 + 1, 1, none⟩ (.int .i64 (smV z0))) (heap_setCell_other _ _ _ _ (show w.heap.size + 1 + 1 ≠ w.heap.size + 1 + 1 + 1 by omega))
   have bB := bl_set B0 (p := ⟨w.heap.size + 1 + 1 + 1, 1, none⟩) (show w.heap.size ≤ w.heap.size + 1 + 1 + 1 by omega) (.int .i64 (smV z0))
   obtain ⟨m1, m2, m3, m4⟩ := bx2 a4
   obtain ⟨k1, k2, k3, k4⟩ := bx2 b4
   obtain ⟨l1, l2, l3, l4⟩ := bx2 b2
   by_cases hall : (okN zs n && smB z0) = true
   ·have hy := HIF.out hall
    have hD := HD.out.trans hall
    subst hy hD
    obtain ⟨h1, h2⟩ := (Bool.and_eq_true _ _).mp hall
    rw [HV0.out h2] at *
    rw [uptoi_full (fun j => smV (zs.getD j 0)) n zs LN.out (HVV.out h1)] at bO
    rw [h1, h2]
    clear HIF HIF2 HD HVV HV0 hall h1 h2 OQ
    have V1 := bO.far (w' := (w5.setCell ⟨w.heap.size + 1 + 1 + 1, 1, none⟩ (.int .i64 z0)).setCell ⟨w.heap.size + 1, 0, none⟩ (.slice (some ⟨w.heap.size + 1 + 1, 0, none⟩) n n)) (heap_setCell_other _ _ _ _ (show w.heap.size + 1 + 1 ≠ w.heap.size + 1 by omega))
    have V2 := V1.far (w' := ((w5.setCell ⟨w.heap.size + 1 + 1 + 1, 1, none⟩ (.int .i64 z0)).setCell ⟨w.heap.size + 1, 0, none⟩ (.slice (some ⟨w.heap.size + 1 + 1, 0, none⟩) n n)).setCell ⟨w.heap.size + 1, 1, none⟩ (.int .i64 z0)) (heap_setCell_other _ _ _ _ (show w.heap.size + 1 + 1 ≠ w.heap.size + 1 by omega))
    clear V1
    go_wp2
    refine bodyPost_ret (results_cell_tmp_row rfl _ _ (w.heap.size + 1) 44 #[.slice (some ⟨w.heap.size + 1 + 1, 0, none⟩) n n, .int .i64 z0] (0, 0) _ _ rfl (blk_set2 b2 _ _) Tryz.underlying44 rfl (by kernel_rfl) rfl) rfl ?_
    exact ⟨⟨_, rfl, _, _, _, rfl, V2.rd⟩, bl_set (bl_set bB (by simp) _) (by simp) _⟩
   ·have hall2 : (okN zs n && smB z0) = false := by simpa using hall
    have hy := HIF2.out hall2
    have hD := HD.out.trans hall2
    subst hy hD
    have V2 := bl_set (bl_set bB (p := ⟨w.heap.size + 1, 0, none⟩) (by simp) (.slice none 0 0)) (p := ⟨w.heap.size + 1, 1, none⟩) (by simp) (.int .i64 0)
    have V1 := blk_set2 b2 (.slice none 0 0) (.int .i64 0)
    have hcc : okN zs n = false ∨ (okN zs n = true ∧ smB z0 = false) := by
     cases e1 : okN zs n with
     | false => exact .inl rfl
     | true => rw [e1, Bool.true_and] at hall2; exact .inr ⟨rfl, hall2⟩
    clear HIF HIF2 HD HVV HV0 hall hall2 OQ bO
    rcases hcc with h1 | ⟨h1, h2⟩
    ·rw [h1]
     generalize smB z0 = sb0 at *
     go_wp2
     refine bodyPost_ret (results_cell_tmp_row rfl _ _ (w.heap.size + 1) 44 #[.slice none 0 0, .int .i64 0] (0, 0) _ _ rfl V1 Tryz.underlying44 rfl (by kernel_rfl) rfl) rfl ?_
     exact ⟨⟨_, rfl, _, _, _, rfl, rfl, by omega, fun h => absurd h (by omega)⟩, V2⟩
    ·rw [h1, h2]
     go_wp2
     refine bodyPost_ret (results_cell_tmp_row rfl _ _ (w.heap.size + 1) 44 #[.slice none 0 0, .int .i64 0] (0, 0) _ _ rfl V1 Tryz.underlying44 rfl (by kernel_rfl) rfl) rfl ?_
     exact ⟨⟨_, rfl, _, _, _, rfl, rfl, by omega, fun h => absurd h (by omega)⟩, V2⟩
end Go.Proofs.YtloplmmnmehkmaaGreat

namespace Go.Proofs.YtloplmmnmehkmaaGreat
open Go.RowKit

def fewP (F : List Fm) : Prop := (∀ f ∈ F, f.1.length ≤ 40) ∧ F.length < 140
instance (F : List Fm) : Decidable (fewP F) := by unfold fewP; infer_instance
set_option maxHeartbeats 40000000
set_option maxRecDepth 100000
theorem lfew_calls (A : Option Addr) (m c : Nat) (F : List Fm) (w : World) (h : RdF w A m F) :
  Calls Tryz.prog 9 #[.slice A m c] w fun e w' => e = .returned (.bool (decide (fewP F))) ∧ Below w.heap.size w w' := by
 have L := Lib.hid h.1
 have hm := h.2.1
 generalize hD : decide (fewP F) = D
 have HD := Lib.hid hD
 clear hD
 go_enter Tryz.func9, Tryz.ntmps9
 go_wp2_with fail
 go_loopw [7] (fun i wr => ∃ kk : Nat, kk ≤ m ∧ i = .int .i64 kk ∧ (∀ j, j < kk → (F.getD j ([], 0)).1.length ≤ 40) ∧ Below w.heap.size w wr) (fun i _ => m - (intOf i).toNat)
 case atStart => exact ⟨0, Nat.zero_le _, rfl, fun j hj => absurd hj (by omega), Below.refl _ _⟩
 case round =>
  obtain ⟨kk, hkk, rfl, hall, B0⟩ := hrel
  have HALL := Lib.hid hall
  clear hall
  by_cases hlt : kk < m
  ·obtain ⟨g, off, rfl, hg, hc⟩ := (h.below B0).2.2 (by omega)
   obtain ⟨A1, n1, c1, p1, p2, hr⟩ := hc kk hlt
   have HMEM := Lib.hid (mem_getD (d := (([], 0) : Fm)) (by rw [L.out]; exact hlt : kk < F.length))
   have hn1 : (F.getD kk ([], 0)).1.length = n1 := hr.1
   have HN1 := Lib.hid hn1
   have hn2 := hr.2.1
   clear hc h hr hn1
   generalize hff : F.getD kk ([], 0) = f at *
   have HFF := Lib.hid hff
   clear hff
   have B1 := bl_alloc B0 (.cells #[.slice A1 n1 c1, .int .i64 f.2] 44)
   by_cases h40 : n1 ≤ 40
   ·have d1 : decide ((40 : Int) < (n1 : Int)) = false := decide_eq_false (by omega)
    have d2 : ¬ (40 : Int) < (n1 : Int) := by omega
    go_wp2
    go_roundw
    case rel =>
     refine ⟨kk + 1, hlt, by go_num, ?_, B1⟩
     intro j hj
     rcases Nat.lt_or_ge j kk with h1 | h1
     ·exact HALL.out j h1
     ·have : j = kk := by omega
      subst this
      rw [HFF.out, HN1.out]; exact h40
    case measure => simp [intOf]; omega
   ·have d1 : decide ((40 : Int) < (n1 : Int)) = true := decide_eq_true (by omega)
    have d2 : (40 : Int) < (n1 : Int) := by omega
    have hd := HD.out
    rw [decide_eq_false (fun hh => h40 (by rw [← HN1.out]; exact hh.1 _ HMEM.out))] at hd
    subst hd
    go_wp2
    go_ret
    exact ⟨rfl, B1⟩
  ·have hkn : m = kk := by omega
   subst hkn
   have hd := HD.out
   by_cases h140 : m < 140
   ·rw [decide_eq_true ⟨all_of_getD (p := fun f : Fm => f.1.length ≤ 40) (d := (([], 0) : Fm)) fun j hj => HALL.out j (by rw [L.out] at hj; omega), by rw [L.out]; exact h140⟩] at hd
    subst hd
    have d1 : decide ((m : Int) < 140) = true := decide_eq_true (by omega)
    have d2 : (m : Int) < 140 := by omega
    go_wp2
    go_ret
    exact ⟨by first | rfl | simp [d1], B0⟩
   ·rw [decide_eq_false (fun hh => h140 (by rw [← L.out]; exact hh.2))] at hd
    subst hd
    have d1 : decide ((m : Int) < 140) = false := decide_eq_false (by omega)
    go_wp2
    go_ret
    exact ⟨by first | rfl | simp [d1] | (simp; omega), B0⟩
end Go.Proofs.YtloplmmnmehkmaaGreat

namespace Go.Proofs.YtloplmmnmehkmaaGreat
open Go.RowKit

theorem made_cells3 (n : Nat) : (madeCells #[.int .i64 0, .bool false, .slice none 0 0] (n * 3)).toList = gcl KR.cl (List.replicate n KR.d) := by
 apply List.ext_getElem?
 intro j
 rcases Nat.lt_or_ge j (n * 3) with h | h
 ·have h1 := gcl_at KR.ok (List.replicate n KR.d) (j / 3) (j % 3) (by rw [List.length_replicate]; omega) (Nat.mod_lt _ (by decide))
  rw [show j / 3 * KR.sz + j % 3 = j by show j / 3 * 3 + j % 3 = j; omega] at h1
  rw [h1, List.getD_eq_getElem?_getD, List.getElem?_replicate, if_pos (by omega : j / 3 < n)]
  have h2 : (madeCells #[Value.int .i64 0, .bool false, .slice none 0 0] (n * 3)).toList[j]? = some ((#[Value.int .i64 0, .bool false, .slice none 0 0])[j % 3]!) := by
   unfold madeCells
   simp [h]
  rw [h2]
  have h4 : j % 3 < 3 := by omega
  generalize j % 3 = m at *
  match m, h4 with
  | 0, _ => rfl
  | 1, _ => rfl
  | 2, _ => rfl
 ·rw [List.getElem?_eq_none (by rw [Array.length_toList, size_madeCells]; exact h), List.getElem?_eq_none (by rw [gcl_len KR.ok, List.length_replicate]; exact h)]
theorem RV.nil0 (w : World) : RV w 0 false none 0 0 0 := .inl ⟨rfl, rfl, rfl, rfl, rfl, by omega, by omega⟩
/-- make([]Int, n). -/
theorem made_r (n : Nat) (hn : n ≤ 1000000) : ∃ cs : Array Value, (∀ (W : World) (base : Nat), base ≤ W.heap.size → KR.Own (W.alloc (.cells cs 49)) base (.slice (some ⟨W.heap.size, 0, none⟩) n n) n (List.replicate n 0)) ∧ ∀ W, (Instr.makeSlice 58 (.int .i64 (n : Nat)) (.int .i64 (n : Nat))).run Tryz.prog W = .ok (.slice (some ⟨W.heap.size, 0, none⟩) n n) (W.alloc (.cells cs 49)) := by
 obtain ⟨i, hi, hz0, hz1, hz2⟩ := info_parts info_rint
 have hi2 : Tryz.prog.info? 49 = some i := hi
 have hz := made_cells3 n
 have hs : (madeCells #[Value.int .i64 0, .bool false, .slice none 0 0] (n * 3)).size = n * 3 := size_madeCells _ _
 generalize hcs : madeCells #[Value.int .i64 0, .bool false, .slice none 0 0] (n * 3) = cs at hz hs
 refine ⟨cs, fun W base hb => ?_, fun W => ?_⟩
 ·refine ⟨List.replicate n KR.d, ⟨by rw [gcl_len KR.ok, List.length_replicate], .inr ⟨W.heap.size, n, cs, rfl, hb, heap_alloc_new W _, Nat.le_refl _, by simp only [maxLen]; omega, hs, by rw [List.take_of_length_le (by rw [Array.length_toList, hs]; exact Nat.le_refl _), hz]⟩⟩, by simp, by simp, fun j hj => ?_⟩
  rw [List.getD_eq_getElem?_getD, List.getD_eq_getElem?_getD, List.getElem?_replicate, List.getElem?_replicate, if_pos hj, if_pos hj]
  exact RV.nil0 _
 ·have h := run_make (P := Tryz.prog) W 58 49 i _ Tryz.underlying58 hi2 hz0 .i64 .i64 (n : Nat) (n : Nat) (by omega) (Int.le_refl _) (by rw [hz2]; omega) (by omega)
  rw [hz1, Int.toNat_natCast] at h
  rw [← hcs]
  exact h
set_option maxHeartbeats 40000000
set_option maxRecDepth 100000
theorem r2zero_calls (n : Nat) (w : World) (hn : n ≤ 500) :
  Calls Tryz.prog 122 #[.int .i64 n] w fun e w' => RowT e w' n (List.replicate n 0) 0 ∧ Below w.heap.size w w' := by
 obtain ⟨cs, om, qm⟩ := made_r n (by omega)
 have OM := Lib.hid om
 clear om
 go_enter Tryz.func122, Tryz.ntmps122
 have az := blk_alloc (blk_at (W := w) (.cells #[.slice (some ⟨w.heap.size + 1, 0, none⟩) n n, .int .i64 0, .bool false, .slice none 0 0] 60) rfl) (.cells cs 49)
 have B0 := bl_alloc (bl_alloc (Below.refl w.heap.size w) (.cells #[.slice (some ⟨w.heap.size + 1, 0, none⟩) n n, .int .i64 0, .bool false, .slice none 0 0] 60)) (.cells cs 49)
 have O0 := OM.out (w.alloc (.cells #[.slice (some ⟨w.heap.size + 1, 0, none⟩) n n, .int .i64 0, .bool false, .slice none 0 0] 60)) w.heap.size (by simp)
 rw [World.size_alloc] at O0
 obtain ⟨A8, c8, e8, U5⟩ := KR.rdT O0 (by omega)
 cases e8
 have HU1 := Lib.hid az
 have HU4 := Lib.hid B0
 have HU5 := Lib.hid U5
 clear az B0 O0 OM U5
 go_wp2
 refine bodyPost_ret (results_cell_row rfl _ _ w.heap.size 60 #[.slice (some ⟨w.heap.size + 1, 0, none⟩) n n, .int .i64 0, .bool false, .slice none 0 0] (0, 0) _ rfl HU1.out Tryz.underlying60 rfl (by kernel_rfl)) rfl ?_
 exact ⟨⟨_, n, ⟨0, false, none, 0, 0⟩, rfl, HU5.out, RV.nil0 _⟩, HU4.out⟩
end Go.Proofs.YtloplmmnmehkmaaGreat
